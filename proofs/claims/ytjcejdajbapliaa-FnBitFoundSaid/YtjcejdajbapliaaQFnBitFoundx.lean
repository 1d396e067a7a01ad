/- Written by wip/myprint.py of this repo (the kit's print, with additions of this session). -/
import Derived.Test.YtjcejdajbapliaaQFnBitFoundx0
import Derived.Test.YtjcejdajbapliaaQFnBitFoundx1
import Derived.Test.YtjcejdajbapliaaQFnBitFoundx2
import Derived.Test.YtjcejdajbapliaaQFnBitFoundx3
import Derived.Test.YtjcejdajbapliaaQFnBitFoundx4
import Derived.Test.YtjcejdajbapliaaQFnBitFoundx5
import Derived.Test.YtjcejdajbapliaaQFnBitFoundx6
import Derived.Test.YtjcejdajbapliaaQFnBitFoundx7
set_option maxRecDepth 100000
namespace Go.Proofs.Ytjcejdajbapliaa.QFnBitFound
open Go.RowKit Go.Proofs.YtjcejdajbapliaaW.PrintWords Go.Proofs.YtjcejdajbapliaaW.PrintLast Go.Proofs.YtjcejdajbapliaaW.PrintMore
attribute [local go_sem] max2_int min2_int max_two min_two max_three min_three max_four min_four   -- for this text's walks alone
set_option linter.unusedVariables false
set_option linter.unusedSimpArgs false

end Go.Proofs.Ytjcejdajbapliaa.QFnBitFound
