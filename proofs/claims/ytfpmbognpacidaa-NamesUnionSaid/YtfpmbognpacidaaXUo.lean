-- written by wip/xprint.py
import Derived.Test.YtfpmbognpacidaaXRead
import Derived.Test.YtfpmbognpacidaaXUp0
import Derived.KernelRfl
namespace Go.Proofs.Ytfpmbognpacidaa.XU
open Go.RowKit Go.Proofs.Ytfpmbognpacidaa.XRead Go.Proofs.Ytfpmbognpacidaa.XU Go.Proofs.YtfpmbognpacidaaW.PrintWords Go.Proofs.YtfpmbognpacidaaW.PrintLast Go.Proofs.YtfpmbognpacidaaW.PrintMore

end Go.Proofs.Ytfpmbognpacidaa.XU
