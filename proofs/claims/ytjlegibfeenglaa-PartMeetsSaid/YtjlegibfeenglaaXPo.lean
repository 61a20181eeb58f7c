-- written by wip/xprint.py
import Derived.Test.YtjlegibfeenglaaXRead
import Derived.Test.YtjlegibfeenglaaXPp0
import Derived.KernelRfl
namespace Go.Proofs.Ytjlegibfeenglaa.XP
open Go.RowKit Go.Proofs.Ytjlegibfeenglaa.XRead Go.Proofs.Ytjlegibfeenglaa.XP Go.Proofs.YtjlegibfeenglaaW.PrintWords Go.Proofs.YtjlegibfeenglaaW.PrintLast Go.Proofs.YtjlegibfeenglaaW.PrintMore

end Go.Proofs.Ytjlegibfeenglaa.XP
