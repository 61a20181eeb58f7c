-- written by wip/xprint.py
import Derived.Test.YthfjlfgoemijaaaXRead
import Derived.Test.YthfjlfgoemijaaaXTp0
import Derived.KernelRfl
namespace Go.Proofs.Ythfjlfgoemijaaa.XT
open Go.RowKit Go.Proofs.Ythfjlfgoemijaaa.XRead Go.Proofs.Ythfjlfgoemijaaa.XT Go.Proofs.YthfjlfgoemijaaaW.PrintWords Go.Proofs.YthfjlfgoemijaaaW.PrintLast Go.Proofs.YthfjlfgoemijaaaW.PrintMore

def F57 (x : S57) : Prop := ((Lit.int .i64 x.f0).wf = true) ∧ (((Lit.int .i64 x.f1).wf = true) ∧ (x.f2.size ≤ 140737488351232))
theorem opens57 : Opens Try.prog 57 k57 F57 :=
  opens_struct Try.underlying57 (fun a => ⟨⟨a.1, a.2.1, a.2.2⟩, rfl⟩) (opensFs_cons rfl (by kernel_rfl) (opens_int Try.underlying3) (opensFs_cons rfl (by kernel_rfl) (opens_int Try.underlying3) (opensFs_one rfl (by kernel_rfl) (opens_string Try.underlying9)))) (by kernel_rfl)
end Go.Proofs.Ythfjlfgoemijaaa.XT
