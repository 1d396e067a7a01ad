/- Written by wip/myprint.py of this repo (the kit's print, with additions of this session). -/
import Derived.Test.YtifchnibhohnpaaDoorQFnExactAddTox0
import Derived.Test.YtifchnibhohnpaaDoorQFnExactAddTox1
import Derived.Test.YtifchnibhohnpaaDoorQFnExactAddTox2
import Derived.Test.YtifchnibhohnpaaDoorQFnExactAddTox3
import Derived.Test.YtifchnibhohnpaaDoorQFnExactAddTox4
import Derived.Test.YtifchnibhohnpaaDoorQFnExactAddTox5
import Derived.Test.YtifchnibhohnpaaDoorQFnExactAddTox6
set_option maxRecDepth 100000
namespace Go.Proofs.YtifchnibhohnpaaDoor.QFnExactAddTo
open Go.RowKit Go.Proofs.YtifchnibhohnpaaDoorW.PrintWords Go.Proofs.YtifchnibhohnpaaDoorW.PrintLast Go.Proofs.YtifchnibhohnpaaDoorW.PrintMore
attribute [local go_sem] max2_int min2_int max_two min_two max_three min_three max_four min_four   -- for this text's walks alone
set_option linter.unusedVariables false
set_option linter.unusedSimpArgs false

end Go.Proofs.YtifchnibhohnpaaDoor.QFnExactAddTo
