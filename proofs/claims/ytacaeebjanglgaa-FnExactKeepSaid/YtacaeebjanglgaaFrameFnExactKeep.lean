import Derived.Test.YtacaeebjanglgaaCrcFnExactKeep
namespace Go.Proofs.Ytacaeebjanglgaa.Frame
open Go.RowKit Go.Proofs.YtacaeebjanglgaaW.PrintWords Go.Proofs.YtacaeebjanglgaaW.PrintLast Go.Proofs.YtacaeebjanglgaaW.PrintMore Go.Proofs.Ytacaeebjanglgaa.Bits Go.Proofs.Ytacaeebjanglgaa.Num Go.Proofs.Ytacaeebjanglgaa.Crc
set_option linter.unusedSimpArgs false
set_option linter.unusedVariables false
theorem strOfNums_bytesOf (s : ByteArray) : strOfNums (bytesOf s) = s := by
  apply ByteArray.ext
  apply Array.ext'
  simp [strOfNums, bytesOf, Function.comp_def]
end Go.Proofs.Ytacaeebjanglgaa.Frame
