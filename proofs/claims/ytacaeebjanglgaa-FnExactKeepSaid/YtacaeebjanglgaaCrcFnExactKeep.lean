import Derived.Test.YtacaeebjanglgaaLoopsFnExactKeep
namespace Go.Proofs.Ytacaeebjanglgaa.Crc
open Go.RowKit Go.Proofs.YtacaeebjanglgaaW.PrintWords Go.Proofs.YtacaeebjanglgaaW.PrintLast Go.Proofs.YtacaeebjanglgaaW.PrintMore Go.Proofs.Ytacaeebjanglgaa.Bits Go.Proofs.Ytacaeebjanglgaa.Num
set_option linter.unusedSimpArgs false
set_option linter.unusedVariables false
end Go.Proofs.Ytacaeebjanglgaa.Crc
