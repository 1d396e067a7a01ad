/- Written by wip/myprint.py of this repo (the kit's print, with additions of this session). -/
import Derived.Test.YtkpbdfpmoeobnaaDoorQFnExactBlobsOfx0
import Derived.Test.YtkpbdfpmoeobnaaDoorQFnExactBlobsOfx1
import Derived.Test.YtkpbdfpmoeobnaaDoorQFnExactBlobsOfx2
import Derived.Test.YtkpbdfpmoeobnaaDoorQFnExactBlobsOfx3
import Derived.Test.YtkpbdfpmoeobnaaDoorQFnExactBlobsOfx4
import Derived.Test.YtkpbdfpmoeobnaaDoorQFnExactBlobsOfx5
import Derived.Test.YtkpbdfpmoeobnaaDoorQFnExactBlobsOfx6
set_option maxRecDepth 100000
namespace Go.Proofs.YtkpbdfpmoeobnaaDoor.QFnExactBlobsOf
open Go.RowKit Go.Proofs.YtkpbdfpmoeobnaaDoorW.PrintWords Go.Proofs.YtkpbdfpmoeobnaaDoorW.PrintLast Go.Proofs.YtkpbdfpmoeobnaaDoorW.PrintMore
attribute [local go_sem] max2_int min2_int max_two min_two max_three min_three max_four min_four   -- for this text's walks alone
set_option linter.unusedVariables false
set_option linter.unusedSimpArgs false

end Go.Proofs.YtkpbdfpmoeobnaaDoor.QFnExactBlobsOf
