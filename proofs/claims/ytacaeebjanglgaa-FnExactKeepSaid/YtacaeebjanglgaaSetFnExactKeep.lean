import Derived.Test.YtacaeebjanglgaaLoopsFnExactKeep
import Derived.Test.YtacaeebjanglgaaDigFnExactKeep
namespace Go.Proofs.Ytacaeebjanglgaa.SetOf
open Go.RowKit Go.Proofs.YtacaeebjanglgaaW.PrintWords Go.Proofs.YtacaeebjanglgaaW.PrintLast Go.Proofs.YtacaeebjanglgaaW.PrintMore Go.Proofs.Ytacaeebjanglgaa.Bits Go.Proofs.Ytacaeebjanglgaa.Num Go.Proofs.Ytacaeebjanglgaa.Dig Go.Proofs.Ytacaeebjanglgaa.Loops
set_option linter.unusedSimpArgs false
set_option linter.unusedVariables false
def less (a b : ByteArray) : Bool := Op.bytesLess a.toList b.toList
end Go.Proofs.Ytacaeebjanglgaa.SetOf
