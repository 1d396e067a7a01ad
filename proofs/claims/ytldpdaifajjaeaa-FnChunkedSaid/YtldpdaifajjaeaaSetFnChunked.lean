import Derived.Test.YtldpdaifajjaeaaLoopsFnChunked
import Derived.Test.YtldpdaifajjaeaaDigFnChunked
namespace Go.Proofs.Ytldpdaifajjaeaa.SetOf
open Go.RowKit Go.Proofs.YtldpdaifajjaeaaW.PrintWords Go.Proofs.YtldpdaifajjaeaaW.PrintLast Go.Proofs.YtldpdaifajjaeaaW.PrintMore Go.Proofs.Ytldpdaifajjaeaa.Bits Go.Proofs.Ytldpdaifajjaeaa.Num Go.Proofs.Ytldpdaifajjaeaa.Dig Go.Proofs.Ytldpdaifajjaeaa.Loops
set_option linter.unusedSimpArgs false
set_option linter.unusedVariables false
def less (a b:ByteArray):Bool:=Op.bytesLess a.toList b.toList
end Go.Proofs.Ytldpdaifajjaeaa.SetOf
