/- Whatever states are handed in: the program's answer on whether they may stand so is the reference's. No condition. -/
import Derived.Test.YtbiegkifpkeaoaaXFuel
import Derived.Test.YtbiegkifpkeaoaaXSlshape
import Derived.Test.YtbiegkifpkeaoaaXSo
import Derived.Test.YtbiegkifpkeaoaaXSp3
import Derived.Test.YtbiegkifpkeaoaaXSp5
namespace Go.Proofs.Ytbiegkifpkeaoaa.Pure
open Go.RowKit Go.Proofs.Ytbiegkifpkeaoaa.XRead Go.Proofs.Ytbiegkifpkeaoaa.XS Go.Proofs.YtbiegkifpkeaoaaW.PrintWords Go.Proofs.YtbiegkifpkeaoaaW.PrintLast Go.Proofs.YtbiegkifpkeaoaaW.PrintMore
open Go.Proofs.Ytbiegkifpkeaoaa.XFuel
set_option linter.unusedVariables false
set_option linter.unusedSimpArgs false
theorem awake_true : Ev (fun k => semblancelaw10_awake.f k) true := Ev.of (fun k => semblancelaw10_awake.mono k) (k := 40) (by decide +kernel)
theorem ShapeChecks : ∀ (l0 : List (S102)), (l0.length * 104 ≤ 140737488351232 ∧ ∀ y ∈ l0, F102 y) → ∃ k, semblancelaw10_ShapeChecks.f k l0 = some true := by
  intro l _
  refine Ev.rounds ?_
  by_cases h : (l.length : Int) > 100
  · simp only [semblancelaw10_ShapeChecks.f, h, if_true]
    exact Ev.bind awake_true (Ev.now _)
  · obtain ⟨c, hc, hcv⟩ := check_ref l (by omega)
    obtain ⟨d, hd, hdv⟩ := check_prog l
    have e := checked_one hcv hdv
    subst e
    simp only [semblancelaw10_ShapeChecks.f, h, if_false, hd, Option.bind_some]
    refine Ev.bind hc ?_
    simp only [if_true]
    exact Ev.bind awake_true (Ev.now _)

end Go.Proofs.Ytbiegkifpkeaoaa.Pure
