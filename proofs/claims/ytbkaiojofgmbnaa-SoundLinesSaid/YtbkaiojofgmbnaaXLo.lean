-- written by wip/xprint.py
import Derived.Test.YtbkaiojofgmbnaaXRead
import Derived.Test.YtbkaiojofgmbnaaXLp0
import Derived.KernelRfl
namespace Go.Proofs.Ytbkaiojofgmbnaa.XL
open Go.RowKit Go.Proofs.Ytbkaiojofgmbnaa.XRead Go.Proofs.Ytbkaiojofgmbnaa.XL Go.Proofs.YtbkaiojofgmbnaaW.PrintWords Go.Proofs.YtbkaiojofgmbnaaW.PrintLast Go.Proofs.YtbkaiojofgmbnaaW.PrintMore

def F64 (x : S64) : Prop := ((Lit.int .i64 x.f0).wf = true) ∧ (((Lit.int .i64 x.f1).wf = true) ∧ ((Lit.int .i64 x.f2).wf = true))
theorem opens64 : Opens Try.prog 64 k64 F64 :=
  opens_struct Try.underlying64 (fun a => ⟨⟨a.1, a.2.1, a.2.2⟩, rfl⟩) (opensFs_cons rfl (by kernel_rfl) (opens_int Try.underlying3) (opensFs_cons rfl (by kernel_rfl) (opens_int Try.underlying3) (opensFs_one rfl (by kernel_rfl) (opens_int Try.underlying3)))) (by kernel_rfl)
end Go.Proofs.Ytbkaiojofgmbnaa.XL
