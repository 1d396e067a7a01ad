/- Written by wip/myprint.py of this repo (the kit's print, with additions of this session). -/
import Derived.Test.YtoeomljkhabifaaDoorQFnExactNodeOfx0
import Derived.Test.YtoeomljkhabifaaDoorQFnExactNodeOfx1
import Derived.Test.YtoeomljkhabifaaDoorQFnExactNodeOfx2
import Derived.Test.YtoeomljkhabifaaDoorQFnExactNodeOfx3
import Derived.Test.YtoeomljkhabifaaDoorQFnExactNodeOfx4
import Derived.Test.YtoeomljkhabifaaDoorQFnExactNodeOfx5
import Derived.Test.YtoeomljkhabifaaDoorQFnExactNodeOfx6
import Derived.Test.YtoeomljkhabifaaDoorQFnExactNodeOfx7
import Derived.Test.YtoeomljkhabifaaDoorQFnExactNodeOfx8
import Derived.Test.YtoeomljkhabifaaDoorQFnExactNodeOfx9
set_option maxRecDepth 100000
namespace Go.Proofs.YtoeomljkhabifaaDoor.QFnExactNodeOf
open Go.RowKit Go.Proofs.YtoeomljkhabifaaDoorW.PrintWords Go.Proofs.YtoeomljkhabifaaDoorW.PrintLast Go.Proofs.YtoeomljkhabifaaDoorW.PrintMore
attribute [local go_sem] max2_int min2_int max_two min_two max_three min_three max_four min_four   -- for this text's walks alone
set_option linter.unusedVariables false
set_option linter.unusedSimpArgs false

end Go.Proofs.YtoeomljkhabifaaDoor.QFnExactNodeOf
