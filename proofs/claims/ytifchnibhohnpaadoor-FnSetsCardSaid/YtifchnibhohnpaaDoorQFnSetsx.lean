/- Written by wip/myprint.py of this repo (the kit's print, with additions of this session). -/
import Derived.Test.YtifchnibhohnpaaDoorQFnSetsx0
import Derived.Test.YtifchnibhohnpaaDoorQFnSetsx1
import Derived.Test.YtifchnibhohnpaaDoorQFnSetsx2
import Derived.Test.YtifchnibhohnpaaDoorQFnSetsx3
import Derived.Test.YtifchnibhohnpaaDoorQFnSetsx4
import Derived.Test.YtifchnibhohnpaaDoorQFnSetsx5
import Derived.Test.YtifchnibhohnpaaDoorQFnSetsx6
import Derived.Test.YtifchnibhohnpaaDoorQFnSetsx7
import Derived.Test.YtifchnibhohnpaaDoorQFnSetsx8
import Derived.Test.YtifchnibhohnpaaDoorQFnSetsx9
import Derived.Test.YtifchnibhohnpaaDoorQFnSetsx10
set_option maxRecDepth 100000
namespace Go.Proofs.YtifchnibhohnpaaDoor.QFnSets
open Go.RowKit Go.Proofs.YtifchnibhohnpaaDoorW.PrintWords Go.Proofs.YtifchnibhohnpaaDoorW.PrintLast Go.Proofs.YtifchnibhohnpaaDoorW.PrintMore
attribute [local go_sem] max2_int min2_int max_two min_two max_three min_three max_four min_four   -- for this text's walks alone
set_option linter.unusedVariables false
set_option linter.unusedSimpArgs false

end Go.Proofs.YtifchnibhohnpaaDoor.QFnSets
