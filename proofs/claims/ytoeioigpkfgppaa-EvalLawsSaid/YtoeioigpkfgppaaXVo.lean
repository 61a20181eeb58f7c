-- written by wip/xprint.py
import Derived.Test.YtoeioigpkfgppaaXRead
import Derived.Test.YtoeioigpkfgppaaXVp0
import Derived.KernelRfl
namespace Go.Proofs.Ytoeioigpkfgppaa.XV
open Go.RowKit Go.Proofs.Ytoeioigpkfgppaa.XRead Go.Proofs.Ytoeioigpkfgppaa.XV Go.Proofs.YtoeioigpkfgppaaW.PrintWords Go.Proofs.YtoeioigpkfgppaaW.PrintLast Go.Proofs.YtoeioigpkfgppaaW.PrintMore

def F47 (x : S47) : Prop := ((Lit.int .i64 x.f0).wf = true) ∧ (((Lit.int .i64 x.f1).wf = true) ∧ (x.f2.size ≤ 140737488351232))
theorem opens47 : Opens Try.prog 47 k47 F47 :=
  opens_struct Try.underlying47 (fun a => ⟨⟨a.1, a.2.1, a.2.2⟩, rfl⟩) (opensFs_cons rfl (by kernel_rfl) (opens_int Try.underlying3) (opensFs_cons rfl (by kernel_rfl) (opens_int Try.underlying3) (opensFs_one rfl (by kernel_rfl) (opens_string Try.underlying9)))) (by kernel_rfl)
def F51 (x : S51) : Prop := (x.f0.size ≤ 140737488351232) ∧ (((Lit.int .i64 x.f1).wf = true) ∧ (((Lit.int .i64 x.f2).wf = true) ∧ ((Lit.int .i64 x.f3).wf = true)))
theorem opens51 : Opens Try.prog 51 k51 F51 :=
  opens_struct Try.underlying51 (fun a => ⟨⟨a.1, a.2.1, a.2.2.1, a.2.2.2⟩, rfl⟩) (opensFs_cons rfl (by kernel_rfl) (opens_string Try.underlying9) (opensFs_cons rfl (by kernel_rfl) (opens_int Try.underlying3) (opensFs_cons rfl (by kernel_rfl) (opens_int Try.underlying3) (opensFs_one rfl (by kernel_rfl) (opens_int Try.underlying3))))) (by kernel_rfl)
def F34 (x : S34) : Prop := ((Lit.int .i64 x.f0).wf = true) ∧ (((Lit.int .i64 x.f1).wf = true) ∧ (((Lit.int .i64 x.f2).wf = true) ∧ ((Lit.int .i64 x.f3).wf = true)))
theorem opens34 : Opens Try.prog 34 k34 F34 :=
  opens_array4_int Try.underlying34 Try.underlying3 (by kernel_rfl) (by kernel_rfl) (fun a => ⟨⟨a.1, a.2.1, a.2.2.1, a.2.2.2⟩, rfl⟩)
def F36 (x : S36) : Prop := (x.f0.length * 40 ≤ 140737488351232 ∧ ∀ y ∈ x.f0, F51 y) ∧ ((F34 x.f1) ∧ (x.f2.length * 16 ≤ 140737488351232 ∧ ∀ y ∈ x.f2, y.size ≤ 140737488351232))
theorem opens36 : Opens Try.prog 36 k36 F36 :=
  opens_struct Try.underlying36 (fun a => ⟨⟨a.1, a.2.1, a.2.2⟩, rfl⟩) (opensFs_cons rfl (by kernel_rfl) (opens_slice (F := F51) 40 Try.underlying23 (by kernel_rfl) (by kernel_rfl) (by decide) opens51) (opensFs_cons rfl (by kernel_rfl) opens34 (opensFs_one rfl (by kernel_rfl) (opens_slice (F := (fun (x : ByteArray) => x.size ≤ 140737488351232)) 16 Try.underlying22 (by kernel_rfl) (by kernel_rfl) (by decide) (opens_string Try.underlying9))))) (by kernel_rfl)
end Go.Proofs.Ytoeioigpkfgppaa.XV
