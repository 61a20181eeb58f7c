-- written by wip/xprint.py
import Derived.Test.YtoeioigpkfgppaaXRead
import Derived.Test.YtoeioigpkfgppaaXRp0
import Derived.KernelRfl
namespace Go.Proofs.Ytoeioigpkfgppaa.XR
open Go.RowKit Go.Proofs.Ytoeioigpkfgppaa.XRead Go.Proofs.Ytoeioigpkfgppaa.XR Go.Proofs.YtoeioigpkfgppaaW.PrintWords Go.Proofs.YtoeioigpkfgppaaW.PrintLast Go.Proofs.YtoeioigpkfgppaaW.PrintMore

def F51 (x : S51) : Prop := (x.f0.size ≤ 140737488351232) ∧ (((Lit.int .i64 x.f1).wf = true) ∧ (((Lit.int .i64 x.f2).wf = true) ∧ ((Lit.int .i64 x.f3).wf = true)))
theorem opens51 : Opens Try.prog 51 k51 F51 :=
  opens_struct Try.underlying51 (fun a => ⟨⟨a.1, a.2.1, a.2.2.1, a.2.2.2⟩, rfl⟩) (opensFs_cons rfl (by kernel_rfl) (opens_string Try.underlying9) (opensFs_cons rfl (by kernel_rfl) (opens_int Try.underlying3) (opensFs_cons rfl (by kernel_rfl) (opens_int Try.underlying3) (opensFs_one rfl (by kernel_rfl) (opens_int Try.underlying3))))) (by kernel_rfl)
def F47 (x : S47) : Prop := ((Lit.int .i64 x.f0).wf = true) ∧ (((Lit.int .i64 x.f1).wf = true) ∧ (x.f2.size ≤ 140737488351232))
theorem opens47 : Opens Try.prog 47 k47 F47 :=
  opens_struct Try.underlying47 (fun a => ⟨⟨a.1, a.2.1, a.2.2⟩, rfl⟩) (opensFs_cons rfl (by kernel_rfl) (opens_int Try.underlying3) (opensFs_cons rfl (by kernel_rfl) (opens_int Try.underlying3) (opensFs_one rfl (by kernel_rfl) (opens_string Try.underlying9)))) (by kernel_rfl)
def F93 (x : S93) : Prop := (x.f0.size ≤ 140737488351232) ∧ ((True) ∧ (x.f2.length * 32 ≤ 140737488351232 ∧ ∀ y ∈ x.f2, F47 y))
theorem opens93 : Opens Try.prog 93 k93 F93 :=
  opens_struct Try.underlying93 (fun a => ⟨⟨a.1, a.2.1, a.2.2⟩, rfl⟩) (opensFs_cons rfl (by kernel_rfl) (opens_string Try.underlying9) (opensFs_cons rfl (by kernel_rfl) (opens_bool Try.underlying4) (opensFs_one rfl (by kernel_rfl) (opens_slice (F := F47) 32 Try.underlying33 (by kernel_rfl) (by kernel_rfl) (by decide) opens47)))) (by kernel_rfl)
def F58 (x : S58) : Prop := (x.f0.size ≤ 140737488351232) ∧ ((x.f1.length * 32 ≤ 140737488351232 ∧ ∀ y ∈ x.f1, F47 y) ∧ ((x.f2.length * 48 ≤ 140737488351232 ∧ ∀ y ∈ x.f2, F93 y) ∧ (x.f3.size ≤ 140737488351232)))
theorem opens58 : Opens Try.prog 58 k58 F58 :=
  opens_struct Try.underlying58 (fun a => ⟨⟨a.1, a.2.1, a.2.2.1, a.2.2.2⟩, rfl⟩) (opensFs_cons rfl (by kernel_rfl) (opens_string Try.underlying9) (opensFs_cons rfl (by kernel_rfl) (opens_slice (F := F47) 32 Try.underlying33 (by kernel_rfl) (by kernel_rfl) (by decide) opens47) (opensFs_cons rfl (by kernel_rfl) (opens_slice (F := F93) 48 Try.underlying52 (by kernel_rfl) (by kernel_rfl) (by decide) opens93) (opensFs_one rfl (by kernel_rfl) (opens_string Try.underlying9))))) (by kernel_rfl)
def F55 (x : S55) : Prop := (x.f0.size ≤ 140737488351232) ∧ (((Lit.int .i64 x.f1).wf = true) ∧ (((Lit.int .i64 x.f2).wf = true) ∧ ((x.f3.length * 48 ≤ 140737488351232 ∧ ∀ y ∈ x.f3, F93 y) ∧ ((x.f4.length * 48 ≤ 140737488351232 ∧ ∀ y ∈ x.f4, F93 y) ∧ (x.f5.length * 80 ≤ 140737488351232 ∧ ∀ y ∈ x.f5, F58 y)))))
theorem opens55 : Opens Try.prog 55 k55 F55 :=
  opens_struct Try.underlying55 (fun a => ⟨⟨a.1, a.2.1, a.2.2.1, a.2.2.2.1, a.2.2.2.2.1, a.2.2.2.2.2⟩, rfl⟩) (opensFs_cons rfl (by kernel_rfl) (opens_string Try.underlying9) (opensFs_cons rfl (by kernel_rfl) (opens_int Try.underlying3) (opensFs_cons rfl (by kernel_rfl) (opens_int Try.underlying3) (opensFs_cons rfl (by kernel_rfl) (opens_slice (F := F93) 48 Try.underlying52 (by kernel_rfl) (by kernel_rfl) (by decide) opens93) (opensFs_cons rfl (by kernel_rfl) (opens_slice (F := F93) 48 Try.underlying52 (by kernel_rfl) (by kernel_rfl) (by decide) opens93) (opensFs_one rfl (by kernel_rfl) (opens_slice (F := F58) 80 Try.underlying53 (by kernel_rfl) (by kernel_rfl) (by decide) opens58))))))) (by kernel_rfl)
def F26 (x : S26) : Prop := (x.f0.size ≤ 140737488351232) ∧ ((x.f1.length * 16 ≤ 140737488351232 ∧ ∀ y ∈ x.f1, y.size ≤ 140737488351232) ∧ ((x.f2.length * 40 ≤ 140737488351232 ∧ ∀ y ∈ x.f2, F51 y) ∧ (x.f3.length * 104 ≤ 140737488351232 ∧ ∀ y ∈ x.f3, F55 y)))
theorem opens26 : Opens Try.prog 26 k26 F26 :=
  opens_struct Try.underlying26 (fun a => ⟨⟨a.1, a.2.1, a.2.2.1, a.2.2.2⟩, rfl⟩) (opensFs_cons rfl (by kernel_rfl) (opens_string Try.underlying9) (opensFs_cons rfl (by kernel_rfl) (opens_slice (F := (fun (x : ByteArray) => x.size ≤ 140737488351232)) 16 Try.underlying22 (by kernel_rfl) (by kernel_rfl) (by decide) (opens_string Try.underlying9)) (opensFs_cons rfl (by kernel_rfl) (opens_slice (F := F51) 40 Try.underlying23 (by kernel_rfl) (by kernel_rfl) (by decide) opens51) (opensFs_one rfl (by kernel_rfl) (opens_slice (F := F55) 104 Try.underlying24 (by kernel_rfl) (by kernel_rfl) (by decide) opens55))))) (by kernel_rfl)
end Go.Proofs.Ytoeioigpkfgppaa.XR
