/- Written by wip/myprint.py of this repo (the kit's print, with additions of this session). -/
import Derived.Test.YtoeomljkhabifaaDoorQFnDiffx0
import Derived.Test.YtoeomljkhabifaaDoorQFnDiffx1
import Derived.Test.YtoeomljkhabifaaDoorQFnDiffx2
import Derived.Test.YtoeomljkhabifaaDoorQFnDiffx3
import Derived.Test.YtoeomljkhabifaaDoorQFnDiffx4
import Derived.Test.YtoeomljkhabifaaDoorQFnDiffx5
import Derived.Test.YtoeomljkhabifaaDoorQFnDiffx6
import Derived.Test.YtoeomljkhabifaaDoorQFnDiffx7
import Derived.Test.YtoeomljkhabifaaDoorQFnDiffx8
import Derived.Test.YtoeomljkhabifaaDoorQFnDiffx9
import Derived.Test.YtoeomljkhabifaaDoorQFnDiffx10
import Derived.Test.YtoeomljkhabifaaDoorQFnDiffx11
import Derived.Test.YtoeomljkhabifaaDoorQFnDiffx12
import Derived.Test.YtoeomljkhabifaaDoorQFnDiffx13
set_option maxRecDepth 100000
namespace Go.Proofs.YtoeomljkhabifaaDoor.QFnDiff
open Go.RowKit Go.Proofs.YtoeomljkhabifaaDoorW.PrintWords Go.Proofs.YtoeomljkhabifaaDoorW.PrintLast Go.Proofs.YtoeomljkhabifaaDoorW.PrintMore
attribute [local go_sem] max2_int min2_int max_two min_two max_three min_three max_four min_four   -- for this text's walks alone
set_option linter.unusedVariables false
set_option linter.unusedSimpArgs false

end Go.Proofs.YtoeomljkhabifaaDoor.QFnDiff
