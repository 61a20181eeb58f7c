-- written by wip/xprint.py
import Derived.Test.YtfpmbognpacidaaXRead
import Derived.Test.YtfpmbognpacidaaXMp0
import Derived.KernelRfl
namespace Go.Proofs.Ytfpmbognpacidaa.XM
open Go.RowKit Go.Proofs.Ytfpmbognpacidaa.XRead Go.Proofs.Ytfpmbognpacidaa.XM Go.Proofs.YtfpmbognpacidaaW.PrintWords Go.Proofs.YtfpmbognpacidaaW.PrintLast Go.Proofs.YtfpmbognpacidaaW.PrintMore

end Go.Proofs.Ytfpmbognpacidaa.XM
