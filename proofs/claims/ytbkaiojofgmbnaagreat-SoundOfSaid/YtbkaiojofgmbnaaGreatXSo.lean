-- written by wip/xprint.py
import Derived.Test.YtbkaiojofgmbnaaGreatXRead
import Derived.Test.YtbkaiojofgmbnaaGreatXSp0
import Derived.KernelRfl
namespace Go.Proofs.YtbkaiojofgmbnaaGreat.XS
open Go.RowKit Go.Proofs.YtbkaiojofgmbnaaGreat.XRead Go.Proofs.YtbkaiojofgmbnaaGreat.XS Go.Proofs.YtbkaiojofgmbnaaGreatW.PrintWords Go.Proofs.YtbkaiojofgmbnaaGreatW.PrintLast Go.Proofs.YtbkaiojofgmbnaaGreatW.PrintMore

def F50 (x : S50) : Prop := (x.f0.size ≤ 140737488351232) ∧ (((Lit.int .i64 x.f1).wf = true) ∧ (((Lit.int .i64 x.f2).wf = true) ∧ ((Lit.int .i64 x.f3).wf = true)))
theorem opens50 : Opens Tryz.prog 50 k50 F50 :=
  opens_struct Tryz.underlying50 (fun a => ⟨⟨a.1, a.2.1, a.2.2.1, a.2.2.2⟩, rfl⟩) (opensFs_cons rfl (by kernel_rfl) (opens_string Tryz.underlying9) (opensFs_cons rfl (by kernel_rfl) (opens_int Tryz.underlying3) (opensFs_cons rfl (by kernel_rfl) (opens_int Tryz.underlying3) (opensFs_one rfl (by kernel_rfl) (opens_int Tryz.underlying3))))) (by kernel_rfl)
def F78 (x : S78) : Prop := ((Lit.int .i64 x.f0).wf = true) ∧ (((Lit.int .i64 x.f1).wf = true) ∧ (x.f2.size ≤ 140737488351232))
theorem opens78 : Opens Tryz.prog 78 k78 F78 :=
  opens_struct Tryz.underlying78 (fun a => ⟨⟨a.1, a.2.1, a.2.2⟩, rfl⟩) (opensFs_cons rfl (by kernel_rfl) (opens_int Tryz.underlying3) (opensFs_cons rfl (by kernel_rfl) (opens_int Tryz.underlying3) (opensFs_one rfl (by kernel_rfl) (opens_string Tryz.underlying9)))) (by kernel_rfl)
def F76 (x : S76) : Prop := (x.f0.size ≤ 140737488351232) ∧ ((True) ∧ (x.f2.length * 32 ≤ 140737488351232 ∧ ∀ y ∈ x.f2, F78 y))
theorem opens76 : Opens Tryz.prog 76 k76 F76 :=
  opens_struct Tryz.underlying76 (fun a => ⟨⟨a.1, a.2.1, a.2.2⟩, rfl⟩) (opensFs_cons rfl (by kernel_rfl) (opens_string Tryz.underlying9) (opensFs_cons rfl (by kernel_rfl) (opens_bool Tryz.underlying4) (opensFs_one rfl (by kernel_rfl) (opens_slice (F := F78) 32 Tryz.underlying52 (by kernel_rfl) (by kernel_rfl) (by decide) opens78)))) (by kernel_rfl)
def F54 (x : S54) : Prop := (x.f0.size ≤ 140737488351232) ∧ ((x.f1.length * 32 ≤ 140737488351232 ∧ ∀ y ∈ x.f1, F78 y) ∧ ((x.f2.length * 48 ≤ 140737488351232 ∧ ∀ y ∈ x.f2, F76 y) ∧ (x.f3.size ≤ 140737488351232)))
theorem opens54 : Opens Tryz.prog 54 k54 F54 :=
  opens_struct Tryz.underlying54 (fun a => ⟨⟨a.1, a.2.1, a.2.2.1, a.2.2.2⟩, rfl⟩) (opensFs_cons rfl (by kernel_rfl) (opens_string Tryz.underlying9) (opensFs_cons rfl (by kernel_rfl) (opens_slice (F := F78) 32 Tryz.underlying52 (by kernel_rfl) (by kernel_rfl) (by decide) opens78) (opensFs_cons rfl (by kernel_rfl) (opens_slice (F := F76) 48 Tryz.underlying43 (by kernel_rfl) (by kernel_rfl) (by decide) opens76) (opensFs_one rfl (by kernel_rfl) (opens_string Tryz.underlying9))))) (by kernel_rfl)
def F46 (x : S46) : Prop := (x.f0.size ≤ 140737488351232) ∧ (((Lit.int .i64 x.f1).wf = true) ∧ (((Lit.int .i64 x.f2).wf = true) ∧ ((x.f3.length * 48 ≤ 140737488351232 ∧ ∀ y ∈ x.f3, F76 y) ∧ ((x.f4.length * 48 ≤ 140737488351232 ∧ ∀ y ∈ x.f4, F76 y) ∧ (x.f5.length * 80 ≤ 140737488351232 ∧ ∀ y ∈ x.f5, F54 y)))))
theorem opens46 : Opens Tryz.prog 46 k46 F46 :=
  opens_struct Tryz.underlying46 (fun a => ⟨⟨a.1, a.2.1, a.2.2.1, a.2.2.2.1, a.2.2.2.2.1, a.2.2.2.2.2⟩, rfl⟩) (opensFs_cons rfl (by kernel_rfl) (opens_string Tryz.underlying9) (opensFs_cons rfl (by kernel_rfl) (opens_int Tryz.underlying3) (opensFs_cons rfl (by kernel_rfl) (opens_int Tryz.underlying3) (opensFs_cons rfl (by kernel_rfl) (opens_slice (F := F76) 48 Tryz.underlying43 (by kernel_rfl) (by kernel_rfl) (by decide) opens76) (opensFs_cons rfl (by kernel_rfl) (opens_slice (F := F76) 48 Tryz.underlying43 (by kernel_rfl) (by kernel_rfl) (by decide) opens76) (opensFs_one rfl (by kernel_rfl) (opens_slice (F := F54) 80 Tryz.underlying44 (by kernel_rfl) (by kernel_rfl) (by decide) opens54))))))) (by kernel_rfl)
def F26 (x : S26) : Prop := (x.f0.size ≤ 140737488351232) ∧ ((x.f1.length * 16 ≤ 140737488351232 ∧ ∀ y ∈ x.f1, y.size ≤ 140737488351232) ∧ ((x.f2.length * 40 ≤ 140737488351232 ∧ ∀ y ∈ x.f2, F50 y) ∧ (x.f3.length * 104 ≤ 140737488351232 ∧ ∀ y ∈ x.f3, F46 y)))
theorem opens26 : Opens Tryz.prog 26 k26 F26 :=
  opens_struct Tryz.underlying26 (fun a => ⟨⟨a.1, a.2.1, a.2.2.1, a.2.2.2⟩, rfl⟩) (opensFs_cons rfl (by kernel_rfl) (opens_string Tryz.underlying9) (opensFs_cons rfl (by kernel_rfl) (opens_slice (F := (fun (x : ByteArray) => x.size ≤ 140737488351232)) 16 Tryz.underlying22 (by kernel_rfl) (by kernel_rfl) (by decide) (opens_string Tryz.underlying9)) (opensFs_cons rfl (by kernel_rfl) (opens_slice (F := F50) 40 Tryz.underlying23 (by kernel_rfl) (by kernel_rfl) (by decide) opens50) (opensFs_one rfl (by kernel_rfl) (opens_slice (F := F46) 104 Tryz.underlying24 (by kernel_rfl) (by kernel_rfl) (by decide) opens46))))) (by kernel_rfl)
end Go.Proofs.YtbkaiojofgmbnaaGreat.XS
