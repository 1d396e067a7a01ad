/- Written by wip/myprint.py of this repo (the kit's print, with additions of this session). -/
import Derived.Test.YtjcejdajbapliaaQFnCutx0
import Derived.Test.YtjcejdajbapliaaQFnCutx1
import Derived.Test.YtjcejdajbapliaaQFnCutx2
import Derived.Test.YtjcejdajbapliaaQFnCutx3
import Derived.Test.YtjcejdajbapliaaQFnCutx4
import Derived.Test.YtjcejdajbapliaaQFnCutx5
import Derived.Test.YtjcejdajbapliaaQFnCutx6
import Derived.Test.YtjcejdajbapliaaQFnCutx7
import Derived.Test.YtjcejdajbapliaaQFnCutx8
import Derived.Test.YtjcejdajbapliaaQFnCutx9
import Derived.Test.YtjcejdajbapliaaQFnCutx10
import Derived.Test.YtjcejdajbapliaaQFnCutx11
set_option maxRecDepth 100000
namespace Go.Proofs.Ytjcejdajbapliaa.QFnCut
open Go.RowKit Go.Proofs.YtjcejdajbapliaaW.PrintWords Go.Proofs.YtjcejdajbapliaaW.PrintLast Go.Proofs.YtjcejdajbapliaaW.PrintMore
attribute [local go_sem] max2_int min2_int max_two min_two max_three min_three max_four min_four   -- for this text's walks alone
set_option linter.unusedVariables false
set_option linter.unusedSimpArgs false

end Go.Proofs.Ytjcejdajbapliaa.QFnCut
