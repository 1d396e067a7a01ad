import Derived.Lib.SlTrimSet
import Derived.Test.YtldpdaifajjaeaaNumFnChunked
namespace Go.Proofs.Ytldpdaifajjaeaa.Dig
open Go.RowKit Go.Proofs.YtldpdaifajjaeaaW.PrintWords Go.Proofs.YtldpdaifajjaeaaW.PrintLast Go.Proofs.YtldpdaifajjaeaaW.PrintMore Go.Proofs.Ytldpdaifajjaeaa.Bits Go.Proofs.Ytldpdaifajjaeaa.Num
set_option linter.unusedSimpArgs false
set_option linter.unusedVariables false
def hexB (c:Int):Bool:=decide ((48≤c∧c≤57)∨(97≤c∧c≤102))
theorem toL (s:ByteArray):s.toList=s.data.toList:=ByteArray.toList_eq s
end Go.Proofs.Ytldpdaifajjaeaa.Dig
