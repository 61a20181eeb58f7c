-- written by wip/xprint.py
import Derived.Test.YtjlegibfeenglaaXRead
import Derived.Test.YtjlegibfeenglaaXFp0
import Derived.KernelRfl
namespace Go.Proofs.Ytjlegibfeenglaa.XF
open Go.RowKit Go.Proofs.Ytjlegibfeenglaa.XRead Go.Proofs.Ytjlegibfeenglaa.XF Go.Proofs.YtjlegibfeenglaaW.PrintWords Go.Proofs.YtjlegibfeenglaaW.PrintLast Go.Proofs.YtjlegibfeenglaaW.PrintMore

def F95 (x : S95) : Prop := (x.f0.size ≤ 140737488351232) ∧ (((Lit.int .i64 x.f1).wf = true) ∧ (((Lit.int .i64 x.f2).wf = true) ∧ ((Lit.int .i64 x.f3).wf = true)))
theorem opens95 : Opens Try.prog 95 k95 F95 :=
  opens_struct Try.underlying95 (fun a => ⟨⟨a.1, a.2.1, a.2.2.1, a.2.2.2⟩, rfl⟩) (opensFs_cons rfl (by kernel_rfl) (opens_string Try.underlying9) (opensFs_cons rfl (by kernel_rfl) (opens_int Try.underlying3) (opensFs_cons rfl (by kernel_rfl) (opens_int Try.underlying3) (opensFs_one rfl (by kernel_rfl) (opens_int Try.underlying3))))) (by kernel_rfl)
def F117 (x : S117) : Prop := ((Lit.int .i64 x.f0).wf = true) ∧ (((Lit.int .i64 x.f1).wf = true) ∧ (x.f2.size ≤ 140737488351232))
theorem opens117 : Opens Try.prog 117 k117 F117 :=
  opens_struct Try.underlying117 (fun a => ⟨⟨a.1, a.2.1, a.2.2⟩, rfl⟩) (opensFs_cons rfl (by kernel_rfl) (opens_int Try.underlying3) (opensFs_cons rfl (by kernel_rfl) (opens_int Try.underlying3) (opensFs_one rfl (by kernel_rfl) (opens_string Try.underlying9)))) (by kernel_rfl)
def F130 (x : S130) : Prop := (x.f0.size ≤ 140737488351232) ∧ ((True) ∧ (x.f2.length * 32 ≤ 140737488351232 ∧ ∀ y ∈ x.f2, F117 y))
theorem opens130 : Opens Try.prog 130 k130 F130 :=
  opens_struct Try.underlying130 (fun a => ⟨⟨a.1, a.2.1, a.2.2⟩, rfl⟩) (opensFs_cons rfl (by kernel_rfl) (opens_string Try.underlying9) (opensFs_cons rfl (by kernel_rfl) (opens_bool Try.underlying4) (opensFs_one rfl (by kernel_rfl) (opens_slice (F := F117) 32 Try.underlying66 (by kernel_rfl) (by kernel_rfl) (by decide) opens117)))) (by kernel_rfl)
def F102 (x : S102) : Prop := (x.f0.size ≤ 140737488351232) ∧ ((x.f1.length * 32 ≤ 140737488351232 ∧ ∀ y ∈ x.f1, F117 y) ∧ ((x.f2.length * 48 ≤ 140737488351232 ∧ ∀ y ∈ x.f2, F130 y) ∧ (x.f3.size ≤ 140737488351232)))
theorem opens102 : Opens Try.prog 102 k102 F102 :=
  opens_struct Try.underlying102 (fun a => ⟨⟨a.1, a.2.1, a.2.2.1, a.2.2.2⟩, rfl⟩) (opensFs_cons rfl (by kernel_rfl) (opens_string Try.underlying9) (opensFs_cons rfl (by kernel_rfl) (opens_slice (F := F117) 32 Try.underlying66 (by kernel_rfl) (by kernel_rfl) (by decide) opens117) (opensFs_cons rfl (by kernel_rfl) (opens_slice (F := F130) 48 Try.underlying96 (by kernel_rfl) (by kernel_rfl) (by decide) opens130) (opensFs_one rfl (by kernel_rfl) (opens_string Try.underlying9))))) (by kernel_rfl)
def F99 (x : S99) : Prop := (x.f0.size ≤ 140737488351232) ∧ (((Lit.int .i64 x.f1).wf = true) ∧ (((Lit.int .i64 x.f2).wf = true) ∧ ((x.f3.length * 48 ≤ 140737488351232 ∧ ∀ y ∈ x.f3, F130 y) ∧ ((x.f4.length * 48 ≤ 140737488351232 ∧ ∀ y ∈ x.f4, F130 y) ∧ (x.f5.length * 80 ≤ 140737488351232 ∧ ∀ y ∈ x.f5, F102 y)))))
theorem opens99 : Opens Try.prog 99 k99 F99 :=
  opens_struct Try.underlying99 (fun a => ⟨⟨a.1, a.2.1, a.2.2.1, a.2.2.2.1, a.2.2.2.2.1, a.2.2.2.2.2⟩, rfl⟩) (opensFs_cons rfl (by kernel_rfl) (opens_string Try.underlying9) (opensFs_cons rfl (by kernel_rfl) (opens_int Try.underlying3) (opensFs_cons rfl (by kernel_rfl) (opens_int Try.underlying3) (opensFs_cons rfl (by kernel_rfl) (opens_slice (F := F130) 48 Try.underlying96 (by kernel_rfl) (by kernel_rfl) (by decide) opens130) (opensFs_cons rfl (by kernel_rfl) (opens_slice (F := F130) 48 Try.underlying96 (by kernel_rfl) (by kernel_rfl) (by decide) opens130) (opensFs_one rfl (by kernel_rfl) (opens_slice (F := F102) 80 Try.underlying97 (by kernel_rfl) (by kernel_rfl) (by decide) opens102))))))) (by kernel_rfl)
def F59 (x : S59) : Prop := (x.f0.size ≤ 140737488351232) ∧ ((x.f1.length * 16 ≤ 140737488351232 ∧ ∀ y ∈ x.f1, y.size ≤ 140737488351232) ∧ ((x.f2.length * 40 ≤ 140737488351232 ∧ ∀ y ∈ x.f2, F95 y) ∧ (x.f3.length * 104 ≤ 140737488351232 ∧ ∀ y ∈ x.f3, F99 y)))
theorem opens59 : Opens Try.prog 59 k59 F59 :=
  opens_struct Try.underlying59 (fun a => ⟨⟨a.1, a.2.1, a.2.2.1, a.2.2.2⟩, rfl⟩) (opensFs_cons rfl (by kernel_rfl) (opens_string Try.underlying9) (opensFs_cons rfl (by kernel_rfl) (opens_slice (F := (fun (x : ByteArray) => x.size ≤ 140737488351232)) 16 Try.underlying55 (by kernel_rfl) (by kernel_rfl) (by decide) (opens_string Try.underlying9)) (opensFs_cons rfl (by kernel_rfl) (opens_slice (F := F95) 40 Try.underlying56 (by kernel_rfl) (by kernel_rfl) (by decide) opens95) (opensFs_one rfl (by kernel_rfl) (opens_slice (F := F99) 104 Try.underlying57 (by kernel_rfl) (by kernel_rfl) (by decide) opens99))))) (by kernel_rfl)
end Go.Proofs.Ytjlegibfeenglaa.XF
