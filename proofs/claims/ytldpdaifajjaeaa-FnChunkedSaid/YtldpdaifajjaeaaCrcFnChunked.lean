import Derived.Test.YtldpdaifajjaeaaLoopsFnChunked
namespace Go.Proofs.Ytldpdaifajjaeaa.Crc
open Go.RowKit Go.Proofs.YtldpdaifajjaeaaW.PrintWords Go.Proofs.YtldpdaifajjaeaaW.PrintLast Go.Proofs.YtldpdaifajjaeaaW.PrintMore Go.Proofs.Ytldpdaifajjaeaa.Bits Go.Proofs.Ytldpdaifajjaeaa.Num
set_option linter.unusedSimpArgs false
set_option linter.unusedVariables false
end Go.Proofs.Ytldpdaifajjaeaa.Crc
