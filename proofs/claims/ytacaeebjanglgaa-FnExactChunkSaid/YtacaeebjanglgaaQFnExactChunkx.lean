/- Written by wip/myprint.py of this repo (the kit's print, with additions of this session). -/
import Derived.Test.YtacaeebjanglgaaQFnExactChunkx0
import Derived.Test.YtacaeebjanglgaaQFnExactChunkx1
import Derived.Test.YtacaeebjanglgaaQFnExactChunkx2
import Derived.Test.YtacaeebjanglgaaQFnExactChunkx3
import Derived.Test.YtacaeebjanglgaaQFnExactChunkx4
import Derived.Test.YtacaeebjanglgaaQFnExactChunkx5
import Derived.Test.YtacaeebjanglgaaQFnExactChunkx6
import Derived.Test.YtacaeebjanglgaaQFnExactChunkx7
import Derived.Test.YtacaeebjanglgaaQFnExactChunkx8
import Derived.Test.YtacaeebjanglgaaQFnExactChunkx9
import Derived.Test.YtacaeebjanglgaaQFnExactChunkx10
import Derived.Test.YtacaeebjanglgaaQFnExactChunkx11
import Derived.Test.YtacaeebjanglgaaQFnExactChunkx12
import Derived.Test.YtacaeebjanglgaaQFnExactChunkx13
import Derived.Test.YtacaeebjanglgaaQFnExactChunkx14
import Derived.Test.YtacaeebjanglgaaQFnExactChunkx15
set_option maxRecDepth 100000
namespace Go.Proofs.Ytacaeebjanglgaa.QFnExactChunk
open Go.RowKit Go.Proofs.YtacaeebjanglgaaW.PrintWords Go.Proofs.YtacaeebjanglgaaW.PrintLast Go.Proofs.YtacaeebjanglgaaW.PrintMore
attribute [local go_sem] max2_int min2_int max_two min_two max_three min_three max_four min_four   -- for this text's walks alone
set_option linter.unusedVariables false
set_option linter.unusedSimpArgs false

end Go.Proofs.Ytacaeebjanglgaa.QFnExactChunk
