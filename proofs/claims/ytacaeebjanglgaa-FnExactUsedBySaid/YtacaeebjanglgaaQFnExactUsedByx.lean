/- Written by wip/myprint.py of this repo (the kit's print, with additions of this session). -/
import Derived.Test.YtacaeebjanglgaaQFnExactUsedByx0
import Derived.Test.YtacaeebjanglgaaQFnExactUsedByx1
import Derived.Test.YtacaeebjanglgaaQFnExactUsedByx2
import Derived.Test.YtacaeebjanglgaaQFnExactUsedByx3
import Derived.Test.YtacaeebjanglgaaQFnExactUsedByx4
import Derived.Test.YtacaeebjanglgaaQFnExactUsedByx5
import Derived.Test.YtacaeebjanglgaaQFnExactUsedByx6
import Derived.Test.YtacaeebjanglgaaQFnExactUsedByx7
import Derived.Test.YtacaeebjanglgaaQFnExactUsedByx8
import Derived.Test.YtacaeebjanglgaaQFnExactUsedByx9
import Derived.Test.YtacaeebjanglgaaQFnExactUsedByx10
import Derived.Test.YtacaeebjanglgaaQFnExactUsedByx11
set_option maxRecDepth 100000
namespace Go.Proofs.Ytacaeebjanglgaa.QFnExactUsedBy
open Go.RowKit Go.Proofs.YtacaeebjanglgaaW.PrintWords Go.Proofs.YtacaeebjanglgaaW.PrintLast Go.Proofs.YtacaeebjanglgaaW.PrintMore
attribute [local go_sem] max2_int min2_int max_two min_two max_three min_three max_four min_four   -- for this text's walks alone
set_option linter.unusedVariables false
set_option linter.unusedSimpArgs false

end Go.Proofs.Ytacaeebjanglgaa.QFnExactUsedBy
