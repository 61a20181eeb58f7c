-- written by wip/xprint.py
import Derived.Test.YtbiegkifpkeaoaaXRead
import Derived.Test.YtbiegkifpkeaoaaXSp0
import Derived.KernelRfl
namespace Go.Proofs.Ytbiegkifpkeaoaa.XS
open Go.RowKit Go.Proofs.Ytbiegkifpkeaoaa.XRead Go.Proofs.Ytbiegkifpkeaoaa.XS Go.Proofs.YtbiegkifpkeaoaaW.PrintWords Go.Proofs.YtbiegkifpkeaoaaW.PrintLast Go.Proofs.YtbiegkifpkeaoaaW.PrintMore

def F124 (x : S124) : Prop := ((Lit.int .i64 x.f0).wf = true) ∧ (((Lit.int .i64 x.f1).wf = true) ∧ (x.f2.size ≤ 140737488351232))
theorem opens124 : Opens Try.prog 124 k124 F124 :=
  opens_struct Try.underlying124 (fun a => ⟨⟨a.1, a.2.1, a.2.2⟩, rfl⟩) (opensFs_cons rfl (by kernel_rfl) (opens_int Try.underlying3) (opensFs_cons rfl (by kernel_rfl) (opens_int Try.underlying3) (opensFs_one rfl (by kernel_rfl) (opens_string Try.underlying9)))) (by kernel_rfl)
def F135 (x : S135) : Prop := (x.f0.size ≤ 140737488351232) ∧ ((True) ∧ (x.f2.length * 32 ≤ 140737488351232 ∧ ∀ y ∈ x.f2, F124 y))
theorem opens135 : Opens Try.prog 135 k135 F135 :=
  opens_struct Try.underlying135 (fun a => ⟨⟨a.1, a.2.1, a.2.2⟩, rfl⟩) (opensFs_cons rfl (by kernel_rfl) (opens_string Try.underlying9) (opensFs_cons rfl (by kernel_rfl) (opens_bool Try.underlying4) (opensFs_one rfl (by kernel_rfl) (opens_slice (F := F124) 32 Try.underlying73 (by kernel_rfl) (by kernel_rfl) (by decide) opens124)))) (by kernel_rfl)
def F105 (x : S105) : Prop := (x.f0.size ≤ 140737488351232) ∧ ((x.f1.length * 32 ≤ 140737488351232 ∧ ∀ y ∈ x.f1, F124 y) ∧ ((x.f2.length * 48 ≤ 140737488351232 ∧ ∀ y ∈ x.f2, F135 y) ∧ (x.f3.size ≤ 140737488351232)))
theorem opens105 : Opens Try.prog 105 k105 F105 :=
  opens_struct Try.underlying105 (fun a => ⟨⟨a.1, a.2.1, a.2.2.1, a.2.2.2⟩, rfl⟩) (opensFs_cons rfl (by kernel_rfl) (opens_string Try.underlying9) (opensFs_cons rfl (by kernel_rfl) (opens_slice (F := F124) 32 Try.underlying73 (by kernel_rfl) (by kernel_rfl) (by decide) opens124) (opensFs_cons rfl (by kernel_rfl) (opens_slice (F := F135) 48 Try.underlying99 (by kernel_rfl) (by kernel_rfl) (by decide) opens135) (opensFs_one rfl (by kernel_rfl) (opens_string Try.underlying9))))) (by kernel_rfl)
def F102 (x : S102) : Prop := (x.f0.size ≤ 140737488351232) ∧ (((Lit.int .i64 x.f1).wf = true) ∧ (((Lit.int .i64 x.f2).wf = true) ∧ ((x.f3.length * 48 ≤ 140737488351232 ∧ ∀ y ∈ x.f3, F135 y) ∧ ((x.f4.length * 48 ≤ 140737488351232 ∧ ∀ y ∈ x.f4, F135 y) ∧ (x.f5.length * 80 ≤ 140737488351232 ∧ ∀ y ∈ x.f5, F105 y)))))
theorem opens102 : Opens Try.prog 102 k102 F102 :=
  opens_struct Try.underlying102 (fun a => ⟨⟨a.1, a.2.1, a.2.2.1, a.2.2.2.1, a.2.2.2.2.1, a.2.2.2.2.2⟩, rfl⟩) (opensFs_cons rfl (by kernel_rfl) (opens_string Try.underlying9) (opensFs_cons rfl (by kernel_rfl) (opens_int Try.underlying3) (opensFs_cons rfl (by kernel_rfl) (opens_int Try.underlying3) (opensFs_cons rfl (by kernel_rfl) (opens_slice (F := F135) 48 Try.underlying99 (by kernel_rfl) (by kernel_rfl) (by decide) opens135) (opensFs_cons rfl (by kernel_rfl) (opens_slice (F := F135) 48 Try.underlying99 (by kernel_rfl) (by kernel_rfl) (by decide) opens135) (opensFs_one rfl (by kernel_rfl) (opens_slice (F := F105) 80 Try.underlying100 (by kernel_rfl) (by kernel_rfl) (by decide) opens105))))))) (by kernel_rfl)
end Go.Proofs.Ytbiegkifpkeaoaa.XS
