/- Written by wip/myprint.py of this repo (the kit's print, with additions of this session). -/
import Derived.Test.YtklaigmpceacaaaQFnExactTakex0
import Derived.Test.YtklaigmpceacaaaQFnExactTakex1
import Derived.Test.YtklaigmpceacaaaQFnExactTakex2
import Derived.Test.YtklaigmpceacaaaQFnExactTakex3
import Derived.Test.YtklaigmpceacaaaQFnExactTakex4
import Derived.Test.YtklaigmpceacaaaQFnExactTakex5
import Derived.Test.YtklaigmpceacaaaQFnExactTakex6
import Derived.Test.YtklaigmpceacaaaQFnExactTakex7
import Derived.Test.YtklaigmpceacaaaQFnExactTakex8
import Derived.Test.YtklaigmpceacaaaQFnExactTakex9
import Derived.Test.YtklaigmpceacaaaQFnExactTakex10
set_option maxRecDepth 100000
namespace Go.Proofs.Ytklaigmpceacaaa.QFnExactTake
open Go.RowKit Go.Proofs.YtklaigmpceacaaaW.PrintWords Go.Proofs.YtklaigmpceacaaaW.PrintLast Go.Proofs.YtklaigmpceacaaaW.PrintMore
attribute [local go_sem] max2_int min2_int max_two min_two max_three min_three max_four min_four   -- for this text's walks alone
set_option linter.unusedVariables false
set_option linter.unusedSimpArgs false

end Go.Proofs.Ytklaigmpceacaaa.QFnExactTake
