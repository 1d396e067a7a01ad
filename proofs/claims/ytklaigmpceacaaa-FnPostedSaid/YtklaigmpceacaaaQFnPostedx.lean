/- Written by wip/myprint.py of this repo (the kit's print, with additions of this session). -/
import Derived.Test.YtklaigmpceacaaaQFnPostedx0
import Derived.Test.YtklaigmpceacaaaQFnPostedx1
import Derived.Test.YtklaigmpceacaaaQFnPostedx2
import Derived.Test.YtklaigmpceacaaaQFnPostedx3
import Derived.Test.YtklaigmpceacaaaQFnPostedx4
import Derived.Test.YtklaigmpceacaaaQFnPostedx5
import Derived.Test.YtklaigmpceacaaaQFnPostedx6
import Derived.Test.YtklaigmpceacaaaQFnPostedx7
import Derived.Test.YtklaigmpceacaaaQFnPostedx8
import Derived.Test.YtklaigmpceacaaaQFnPostedx9
import Derived.Test.YtklaigmpceacaaaQFnPostedx10
import Derived.Test.YtklaigmpceacaaaQFnPostedx11
import Derived.Test.YtklaigmpceacaaaQFnPostedx12
set_option maxRecDepth 100000
namespace Go.Proofs.Ytklaigmpceacaaa.QFnPosted
open Go.RowKit Go.Proofs.YtklaigmpceacaaaW.PrintWords Go.Proofs.YtklaigmpceacaaaW.PrintLast Go.Proofs.YtklaigmpceacaaaW.PrintMore
attribute [local go_sem] max2_int min2_int max_two min_two max_three min_three max_four min_four   -- for this text's walks alone
set_option linter.unusedVariables false
set_option linter.unusedSimpArgs false

end Go.Proofs.Ytklaigmpceacaaa.QFnPosted
