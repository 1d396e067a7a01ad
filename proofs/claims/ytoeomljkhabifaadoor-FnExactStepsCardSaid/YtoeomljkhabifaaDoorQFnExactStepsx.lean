/- Written by wip/myprint.py of this repo (the kit's print, with additions of this session). -/
import Derived.Test.YtoeomljkhabifaaDoorQFnExactStepsx0
import Derived.Test.YtoeomljkhabifaaDoorQFnExactStepsx1
import Derived.Test.YtoeomljkhabifaaDoorQFnExactStepsx2
import Derived.Test.YtoeomljkhabifaaDoorQFnExactStepsx3
import Derived.Test.YtoeomljkhabifaaDoorQFnExactStepsx4
import Derived.Test.YtoeomljkhabifaaDoorQFnExactStepsx5
import Derived.Test.YtoeomljkhabifaaDoorQFnExactStepsx6
import Derived.Test.YtoeomljkhabifaaDoorQFnExactStepsx7
import Derived.Test.YtoeomljkhabifaaDoorQFnExactStepsx8
import Derived.Test.YtoeomljkhabifaaDoorQFnExactStepsx9
import Derived.Test.YtoeomljkhabifaaDoorQFnExactStepsx10
import Derived.Test.YtoeomljkhabifaaDoorQFnExactStepsx11
set_option maxRecDepth 100000
namespace Go.Proofs.YtoeomljkhabifaaDoor.QFnExactSteps
open Go.RowKit Go.Proofs.YtoeomljkhabifaaDoorW.PrintWords Go.Proofs.YtoeomljkhabifaaDoorW.PrintLast Go.Proofs.YtoeomljkhabifaaDoorW.PrintMore
attribute [local go_sem] max2_int min2_int max_two min_two max_three min_three max_four min_four   -- for this text's walks alone
set_option linter.unusedVariables false
set_option linter.unusedSimpArgs false

end Go.Proofs.YtoeomljkhabifaaDoor.QFnExactSteps
