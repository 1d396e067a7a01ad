/- Written by wip/myprint.py of this repo (the kit's print, with additions of this session). -/
import Derived.Test.YtldpdaifajjaeaaQFnChunkedx23
set_option maxRecDepth 100000
namespace Go.Proofs.Ytldpdaifajjaeaa.QFnChunked
open Go.RowKit Go.Proofs.YtldpdaifajjaeaaW.PrintWords Go.Proofs.YtldpdaifajjaeaaW.PrintLast Go.Proofs.YtldpdaifajjaeaaW.PrintMore
attribute [local go_sem] max2_int min2_int max_two min_two max_three min_three max_four min_four
set_option linter.unusedVariables false
set_option linter.unusedSimpArgs false
end Go.Proofs.Ytldpdaifajjaeaa.QFnChunked
