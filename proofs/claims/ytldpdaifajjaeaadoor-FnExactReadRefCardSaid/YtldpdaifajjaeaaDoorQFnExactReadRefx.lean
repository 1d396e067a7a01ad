/- Written by wip/myprint.py of this repo (the kit's print, with additions of this session). -/
import Derived.Test.YtldpdaifajjaeaaDoorQFnExactReadRefx0
import Derived.Test.YtldpdaifajjaeaaDoorQFnExactReadRefx1
import Derived.Test.YtldpdaifajjaeaaDoorQFnExactReadRefx2
import Derived.Test.YtldpdaifajjaeaaDoorQFnExactReadRefx3
import Derived.Test.YtldpdaifajjaeaaDoorQFnExactReadRefx4
import Derived.Test.YtldpdaifajjaeaaDoorQFnExactReadRefx5
import Derived.Test.YtldpdaifajjaeaaDoorQFnExactReadRefx6
import Derived.Test.YtldpdaifajjaeaaDoorQFnExactReadRefx7
import Derived.Test.YtldpdaifajjaeaaDoorQFnExactReadRefx8
set_option maxRecDepth 100000
namespace Go.Proofs.YtldpdaifajjaeaaDoor.QFnExactReadRef
open Go.RowKit Go.Proofs.YtldpdaifajjaeaaDoorW.PrintWords Go.Proofs.YtldpdaifajjaeaaDoorW.PrintLast Go.Proofs.YtldpdaifajjaeaaDoorW.PrintMore
attribute [local go_sem] max2_int min2_int max_two min_two max_three min_three max_four min_four   -- for this text's walks alone
set_option linter.unusedVariables false
set_option linter.unusedSimpArgs false

end Go.Proofs.YtldpdaifajjaeaaDoor.QFnExactReadRef
