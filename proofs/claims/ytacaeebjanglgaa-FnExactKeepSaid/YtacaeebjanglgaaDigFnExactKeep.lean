import Derived.Lib.SlTrimSet
import Derived.Test.YtacaeebjanglgaaNumFnExactKeep
namespace Go.Proofs.Ytacaeebjanglgaa.Dig
open Go.RowKit Go.Proofs.YtacaeebjanglgaaW.PrintWords Go.Proofs.YtacaeebjanglgaaW.PrintLast Go.Proofs.YtacaeebjanglgaaW.PrintMore Go.Proofs.Ytacaeebjanglgaa.Bits Go.Proofs.Ytacaeebjanglgaa.Num
set_option linter.unusedSimpArgs false
set_option linter.unusedVariables false
def hexB (c : Int) : Bool := decide ((48 ≤ c ∧ c ≤ 57) ∨ (97 ≤ c ∧ c ≤ 102))
theorem toL (s : ByteArray) : s.toList = s.data.toList := ByteArray.toList_eq s
end Go.Proofs.Ytacaeebjanglgaa.Dig
