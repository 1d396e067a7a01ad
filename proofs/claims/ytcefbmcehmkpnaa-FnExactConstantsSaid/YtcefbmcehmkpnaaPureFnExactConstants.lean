/- Every exported constant of the program is the document's. No condition. -/
import Derived.Test.YtcefbmcehmkpnaaQFnExactConstantsx
namespace Go.Proofs.Ytcefbmcehmkpnaa.Pure
open Go.Proofs.Ytcefbmcehmkpnaa.QFnExactConstants

theorem FnExactConstants : laws_FnExactConstants.Pure := rfl

end Go.Proofs.Ytcefbmcehmkpnaa.Pure
