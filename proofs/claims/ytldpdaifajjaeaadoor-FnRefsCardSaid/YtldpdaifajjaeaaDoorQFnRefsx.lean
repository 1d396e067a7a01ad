/- Written by wip/myprint.py of this repo (the kit's print, with additions of this session). -/
import Derived.Test.YtldpdaifajjaeaaDoorQFnRefsx0
import Derived.Test.YtldpdaifajjaeaaDoorQFnRefsx1
import Derived.Test.YtldpdaifajjaeaaDoorQFnRefsx2
import Derived.Test.YtldpdaifajjaeaaDoorQFnRefsx3
import Derived.Test.YtldpdaifajjaeaaDoorQFnRefsx4
import Derived.Test.YtldpdaifajjaeaaDoorQFnRefsx5
import Derived.Test.YtldpdaifajjaeaaDoorQFnRefsx6
import Derived.Test.YtldpdaifajjaeaaDoorQFnRefsx7
import Derived.Test.YtldpdaifajjaeaaDoorQFnRefsx8
import Derived.Test.YtldpdaifajjaeaaDoorQFnRefsx9
import Derived.Test.YtldpdaifajjaeaaDoorQFnRefsx10
import Derived.Test.YtldpdaifajjaeaaDoorQFnRefsx11
import Derived.Test.YtldpdaifajjaeaaDoorQFnRefsx12
import Derived.Test.YtldpdaifajjaeaaDoorQFnRefsx13
import Derived.Test.YtldpdaifajjaeaaDoorQFnRefsx14
import Derived.Test.YtldpdaifajjaeaaDoorQFnRefsx15
set_option maxRecDepth 100000
namespace Go.Proofs.YtldpdaifajjaeaaDoor.QFnRefs
open Go.RowKit Go.Proofs.YtldpdaifajjaeaaDoorW.PrintWords Go.Proofs.YtldpdaifajjaeaaDoorW.PrintLast Go.Proofs.YtldpdaifajjaeaaDoorW.PrintMore
attribute [local go_sem] max2_int min2_int max_two min_two max_three min_three max_four min_four   -- for this text's walks alone
set_option linter.unusedVariables false
set_option linter.unusedSimpArgs false

end Go.Proofs.YtldpdaifajjaeaaDoor.QFnRefs
