/- Written by wip/myprint.py of this repo (the kit's print, with additions of this session). -/
import Derived.Test.YtcefbmcehmkpnaaQFnExactCuttingx0
import Derived.Test.YtcefbmcehmkpnaaQFnExactCuttingx1
import Derived.Test.YtcefbmcehmkpnaaQFnExactCuttingx2
import Derived.Test.YtcefbmcehmkpnaaQFnExactCuttingx3
import Derived.Test.YtcefbmcehmkpnaaQFnExactCuttingx4
import Derived.Test.YtcefbmcehmkpnaaQFnExactCuttingx5
import Derived.Test.YtcefbmcehmkpnaaQFnExactCuttingx6
import Derived.Test.YtcefbmcehmkpnaaQFnExactCuttingx7
import Derived.Test.YtcefbmcehmkpnaaQFnExactCuttingx8
import Derived.Test.YtcefbmcehmkpnaaQFnExactCuttingx9
import Derived.Test.YtcefbmcehmkpnaaQFnExactCuttingx10
namespace Go.Proofs.Ytcefbmcehmkpnaa.QFnExactCutting
open Go.RowKit Go.Proofs.YtcefbmcehmkpnaaW.PrintWords Go.Proofs.YtcefbmcehmkpnaaW.PrintLast Go.Proofs.YtcefbmcehmkpnaaW.PrintMore
attribute [local go_sem] max2_int min2_int max_two min_two max_three min_three max_four min_four   -- for this text's walks alone
set_option linter.unusedVariables false
set_option linter.unusedSimpArgs false

end Go.Proofs.Ytcefbmcehmkpnaa.QFnExactCutting
