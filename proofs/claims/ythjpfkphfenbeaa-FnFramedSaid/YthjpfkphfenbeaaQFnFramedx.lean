/- Written by wip/myprint.py of this repo (the kit's print, with additions of this session). -/
import Derived.Test.YthjpfkphfenbeaaQFnFramedx0
import Derived.Test.YthjpfkphfenbeaaQFnFramedx1
import Derived.Test.YthjpfkphfenbeaaQFnFramedx2
import Derived.Test.YthjpfkphfenbeaaQFnFramedx3
import Derived.Test.YthjpfkphfenbeaaQFnFramedx4
import Derived.Test.YthjpfkphfenbeaaQFnFramedx5
import Derived.Test.YthjpfkphfenbeaaQFnFramedx6
import Derived.Test.YthjpfkphfenbeaaQFnFramedx7
import Derived.Test.YthjpfkphfenbeaaQFnFramedx8
import Derived.Test.YthjpfkphfenbeaaQFnFramedx9
namespace Go.Proofs.Ythjpfkphfenbeaa.QFnFramed
open Go.RowKit Go.Proofs.YthjpfkphfenbeaaW.PrintWords Go.Proofs.YthjpfkphfenbeaaW.PrintLast Go.Proofs.YthjpfkphfenbeaaW.PrintMore
attribute [local go_sem] max2_int min2_int max_two min_two max_three min_three max_four min_four   -- for this text's walks alone
set_option linter.unusedVariables false
set_option linter.unusedSimpArgs false

end Go.Proofs.Ythjpfkphfenbeaa.QFnFramed
