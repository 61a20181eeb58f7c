-- written by wip/xprint.py
import Derived.Test.YtjlegibfeenglaaXRead
import Derived.Test.YtjlegibfeenglaaXVp0
import Derived.KernelRfl
namespace Go.Proofs.Ytjlegibfeenglaa.XV
open Go.RowKit Go.Proofs.Ytjlegibfeenglaa.XRead Go.Proofs.Ytjlegibfeenglaa.XV Go.Proofs.YtjlegibfeenglaaW.PrintWords Go.Proofs.YtjlegibfeenglaaW.PrintLast Go.Proofs.YtjlegibfeenglaaW.PrintMore

def F38 (x : S38) : Prop := ((Lit.int .i64 x.f0).wf = true) ∧ (((Lit.int .i64 x.f1).wf = true) ∧ ((Lit.int .u64 x.f2).wf = true))
theorem opens38 : Opens Try.prog 38 k38 F38 :=
  opens_struct Try.underlying38 (fun a => ⟨⟨a.1, a.2.1, a.2.2⟩, rfl⟩) (opensFs_cons rfl (by kernel_rfl) (opens_int Try.underlying3) (opensFs_cons rfl (by kernel_rfl) (opens_int Try.underlying3) (opensFs_one rfl (by kernel_rfl) (opens_int Try.underlying36)))) (by kernel_rfl)
end Go.Proofs.Ytjlegibfeenglaa.XV
