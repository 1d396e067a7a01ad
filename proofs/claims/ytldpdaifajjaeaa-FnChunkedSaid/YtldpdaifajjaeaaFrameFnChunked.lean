import Derived.Test.YtldpdaifajjaeaaCrcFnChunked
namespace Go.Proofs.Ytldpdaifajjaeaa.Frame
open Go.RowKit Go.Proofs.YtldpdaifajjaeaaW.PrintWords Go.Proofs.YtldpdaifajjaeaaW.PrintLast Go.Proofs.YtldpdaifajjaeaaW.PrintMore Go.Proofs.Ytldpdaifajjaeaa.Bits Go.Proofs.Ytldpdaifajjaeaa.Num Go.Proofs.Ytldpdaifajjaeaa.Crc
set_option linter.unusedSimpArgs false
set_option linter.unusedVariables false
theorem strOfNums_bytesOf (s:ByteArray):strOfNums (bytesOf s)=s:=by
  apply ByteArray.ext
  apply Array.ext'
  simp [strOfNums,bytesOf,Function.comp_def]
end Go.Proofs.Ytldpdaifajjaeaa.Frame
