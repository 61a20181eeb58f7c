/- Of any asks to add, counted in two tallies in either order: the total is the sum of what was taken, and the two tallies hold the same. No condition. -/
import Derived.Test.YtjlegibfeenglaaXVo
import Derived.Test.YtjlegibfeenglaaXVp2
namespace Go.Proofs.Ytjlegibfeenglaa.Pure
open Go.RowKit Go.Proofs.Ytjlegibfeenglaa.XRead Go.Proofs.Ytjlegibfeenglaa.XV Go.Proofs.YtjlegibfeenglaaW.PrintWords Go.Proofs.YtjlegibfeenglaaW.PrintLast Go.Proofs.YtjlegibfeenglaaW.PrintMore

set_option linter.unusedVariables false
set_option linter.unusedSimpArgs false
theorem TallySums : ∀ (l0 : List (S38)), (l0.length * 24 ≤ 140737488351232 ∧ ∀ y ∈ l0, F38 y) → semblancelaw55_TallySums.f l0 = some true := by
  intros
  rfl

end Go.Proofs.Ytjlegibfeenglaa.Pure
