/- Written by wip/myprint.py of this repo (the kit's print, with additions of this session). -/
import Derived.Test.YtldpdaifajjaeaaQFnKeptx0
import Derived.Test.YtldpdaifajjaeaaQFnKeptx1
import Derived.Test.YtldpdaifajjaeaaQFnKeptx2
import Derived.Test.YtldpdaifajjaeaaQFnKeptx3
import Derived.Test.YtldpdaifajjaeaaQFnKeptx4
import Derived.Test.YtldpdaifajjaeaaQFnKeptx5
import Derived.Test.YtldpdaifajjaeaaQFnKeptx6
import Derived.Test.YtldpdaifajjaeaaQFnKeptx7
import Derived.Test.YtldpdaifajjaeaaQFnKeptx8
import Derived.Test.YtldpdaifajjaeaaQFnKeptx9
import Derived.Test.YtldpdaifajjaeaaQFnKeptx10
import Derived.Test.YtldpdaifajjaeaaQFnKeptx11
import Derived.Test.YtldpdaifajjaeaaQFnKeptx12
import Derived.Test.YtldpdaifajjaeaaQFnKeptx13
import Derived.Test.YtldpdaifajjaeaaQFnKeptx14
import Derived.Test.YtldpdaifajjaeaaQFnKeptx15
import Derived.Test.YtldpdaifajjaeaaQFnKeptx16
import Derived.Test.YtldpdaifajjaeaaQFnKeptx17
import Derived.Test.YtldpdaifajjaeaaQFnKeptx18
import Derived.Test.YtldpdaifajjaeaaQFnKeptx19
import Derived.Test.YtldpdaifajjaeaaQFnKeptx20
import Derived.Test.YtldpdaifajjaeaaQFnKeptx21
import Derived.Test.YtldpdaifajjaeaaQFnKeptx22
import Derived.Test.YtldpdaifajjaeaaQFnKeptx23
set_option maxRecDepth 100000
namespace Go.Proofs.Ytldpdaifajjaeaa.QFnKept
open Go.RowKit Go.Proofs.YtldpdaifajjaeaaW.PrintWords Go.Proofs.YtldpdaifajjaeaaW.PrintLast Go.Proofs.YtldpdaifajjaeaaW.PrintMore
attribute [local go_sem] max2_int min2_int max_two min_two max_three min_three max_four min_four
set_option linter.unusedVariables false
set_option linter.unusedSimpArgs false

end Go.Proofs.Ytldpdaifajjaeaa.QFnKept
