/- Whatever a tally is asked, one after the other: it answers as a plain row of numbers would. No condition. -/
import Derived.Test.YtjlegibfeenglaaXVo
import Derived.Test.YtjlegibfeenglaaXVp3
namespace Go.Proofs.Ytjlegibfeenglaa.Pure
open Go.RowKit Go.Proofs.Ytjlegibfeenglaa.XRead Go.Proofs.Ytjlegibfeenglaa.XV Go.Proofs.YtjlegibfeenglaaW.PrintWords Go.Proofs.YtjlegibfeenglaaW.PrintLast Go.Proofs.YtjlegibfeenglaaW.PrintMore

set_option linter.unusedVariables false
set_option linter.unusedSimpArgs false
theorem TallyAsks : ∀ (a0 : Int) (l1 : List (S38)), ((Lit.int .i64 a0).wf = true) → (l1.length * 24 ≤ 140737488351232 ∧ ∀ y ∈ l1, F38 y) → semblancelaw55_TallyAsks.f a0 l1 = some true := by
  intros
  rfl

end Go.Proofs.Ytjlegibfeenglaa.Pure
