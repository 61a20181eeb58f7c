/- Nobody's tally (none, or one without cells) counts nothing, whatever is asked of it. No condition. -/
import Derived.Test.YtjlegibfeenglaaXVo
import Derived.Test.YtjlegibfeenglaaXVp4
namespace Go.Proofs.Ytjlegibfeenglaa.Pure
open Go.RowKit Go.Proofs.Ytjlegibfeenglaa.XRead Go.Proofs.Ytjlegibfeenglaa.XV Go.Proofs.YtjlegibfeenglaaW.PrintWords Go.Proofs.YtjlegibfeenglaaW.PrintLast Go.Proofs.YtjlegibfeenglaaW.PrintMore

set_option linter.unusedVariables false
set_option linter.unusedSimpArgs false
theorem TallyNobody : ∀ (a0_0 : Int) (a0_1 : Int) (a0_2 : Int), (F38 (⟨a0_0, a0_1, a0_2⟩ : S38)) → semblancelaw55_TallyNobody.f a0_0 a0_1 a0_2 = some true := by
  intros
  rfl

end Go.Proofs.Ytjlegibfeenglaa.Pure
