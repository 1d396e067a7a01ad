/- Written by wip/myprint.py of this repo (the kit's print, with additions of this session). -/
import Derived.Test.YtcefbmcehmkpnaaQFnExactConstantsx0
import Derived.Test.YtcefbmcehmkpnaaQFnExactConstantsx1
namespace Go.Proofs.Ytcefbmcehmkpnaa.QFnExactConstants
open Go.RowKit Go.Proofs.YtcefbmcehmkpnaaW.PrintWords Go.Proofs.YtcefbmcehmkpnaaW.PrintLast Go.Proofs.YtcefbmcehmkpnaaW.PrintMore
attribute [local go_sem] max2_int min2_int max_two min_two max_three min_three max_four min_four   -- for this text's walks alone
set_option linter.unusedVariables false
set_option linter.unusedSimpArgs false

end Go.Proofs.Ytcefbmcehmkpnaa.QFnExactConstants
