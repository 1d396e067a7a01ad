/- Written by wip/myprint.py of this repo (the kit's print, with additions of this session). -/
import Derived.Test.YtacaeebjanglgaaQFnExactDigestsOfx0
import Derived.Test.YtacaeebjanglgaaQFnExactDigestsOfx1
import Derived.Test.YtacaeebjanglgaaQFnExactDigestsOfx2
import Derived.Test.YtacaeebjanglgaaQFnExactDigestsOfx3
import Derived.Test.YtacaeebjanglgaaQFnExactDigestsOfx4
import Derived.Test.YtacaeebjanglgaaQFnExactDigestsOfx5
import Derived.Test.YtacaeebjanglgaaQFnExactDigestsOfx6
import Derived.Test.YtacaeebjanglgaaQFnExactDigestsOfx7
import Derived.Test.YtacaeebjanglgaaQFnExactDigestsOfx8
import Derived.Test.YtacaeebjanglgaaQFnExactDigestsOfx9
import Derived.Test.YtacaeebjanglgaaQFnExactDigestsOfx10
import Derived.Test.YtacaeebjanglgaaQFnExactDigestsOfx11
import Derived.Test.YtacaeebjanglgaaQFnExactDigestsOfx12
import Derived.Test.YtacaeebjanglgaaQFnExactDigestsOfx13
set_option maxRecDepth 100000
namespace Go.Proofs.Ytacaeebjanglgaa.QFnExactDigestsOf
open Go.RowKit Go.Proofs.YtacaeebjanglgaaW.PrintWords Go.Proofs.YtacaeebjanglgaaW.PrintLast Go.Proofs.YtacaeebjanglgaaW.PrintMore
attribute [local go_sem] max2_int min2_int max_two min_two max_three min_three max_four min_four   -- for this text's walks alone
set_option linter.unusedVariables false
set_option linter.unusedSimpArgs false

end Go.Proofs.Ytacaeebjanglgaa.QFnExactDigestsOf
