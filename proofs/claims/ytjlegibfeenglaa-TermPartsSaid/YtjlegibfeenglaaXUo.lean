-- written by wip/xprint.py
import Derived.Test.YtjlegibfeenglaaXRead
import Derived.Test.YtjlegibfeenglaaXUp0
import Derived.KernelRfl
namespace Go.Proofs.Ytjlegibfeenglaa.XU
open Go.RowKit Go.Proofs.Ytjlegibfeenglaa.XRead Go.Proofs.Ytjlegibfeenglaa.XU Go.Proofs.YtjlegibfeenglaaW.PrintWords Go.Proofs.YtjlegibfeenglaaW.PrintLast Go.Proofs.YtjlegibfeenglaaW.PrintMore

def F117 (x : S117) : Prop := ((Lit.int .i64 x.f0).wf = true) ∧ (((Lit.int .i64 x.f1).wf = true) ∧ (x.f2.size ≤ 140737488351232))
theorem opens117 : Opens Try.prog 117 k117 F117 :=
  opens_struct Try.underlying117 (fun a => ⟨⟨a.1, a.2.1, a.2.2⟩, rfl⟩) (opensFs_cons rfl (by kernel_rfl) (opens_int Try.underlying3) (opensFs_cons rfl (by kernel_rfl) (opens_int Try.underlying3) (opensFs_one rfl (by kernel_rfl) (opens_string Try.underlying9)))) (by kernel_rfl)
end Go.Proofs.Ytjlegibfeenglaa.XU
