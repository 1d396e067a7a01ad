/- Written by wip/myprint.py of this repo (the kit's print, with additions of this session). -/
import Derived.Test.YtjcejdajbapliaaQFnNumbersx0
import Derived.Test.YtjcejdajbapliaaQFnNumbersx1
import Derived.Test.YtjcejdajbapliaaQFnNumbersx2
import Derived.Test.YtjcejdajbapliaaQFnNumbersx3
import Derived.Test.YtjcejdajbapliaaQFnNumbersx4
set_option maxRecDepth 100000
namespace Go.Proofs.Ytjcejdajbapliaa.QFnNumbers
open Go.RowKit Go.Proofs.YtjcejdajbapliaaW.PrintWords Go.Proofs.YtjcejdajbapliaaW.PrintLast Go.Proofs.YtjcejdajbapliaaW.PrintMore
attribute [local go_sem] max2_int min2_int max_two min_two max_three min_three max_four min_four   -- for this text's walks alone
set_option linter.unusedVariables false
set_option linter.unusedSimpArgs false

end Go.Proofs.Ytjcejdajbapliaa.QFnNumbers
