import Derived.Test.YtfpmbognpacidaaXFuel
import Derived.Test.YtfpmbognpacidaaXMo
import Derived.Test.YtfpmbognpacidaaXMp16
namespace Go.Proofs.Ytfpmbognpacidaa.XM
open Go.RowKit Go.Proofs.Ytfpmbognpacidaa.XRead Go.Proofs.Ytfpmbognpacidaa.XM Go.Proofs.YtfpmbognpacidaaW.PrintWords Go.Proofs.YtfpmbognpacidaaW.PrintLast Go.Proofs.YtfpmbognpacidaaW.PrintMore
open Go.Proofs.Ytfpmbognpacidaa.XFuel
set_option linter.unusedVariables false
set_option linter.unusedSimpArgs false
theorem same_self (xs : List Int) (hx : xs.length ≤ 100000) : ∀ (d n : Nat), xs.length - n = d → n ≤ xs.length → Ev (fun k => semblanceref01_Same.l0 k xs xs n) true := by
  intro d
  induction d with
  | zero =>
    intro n hd hn
    have h1 : ¬ ((n : Int) < (xs.length : Int)) := by omega
    apply Ev.succ
    simp only [semblanceref01_Same.l0, h1, if_false]
    exact Ev.now _
  | succ d ih =>
    intro n hd hn
    have h1 : (n : Int) < (xs.length : Int) := by omega
    have h2 : (0 : Int) ≤ (n : Int) := by omega
    apply Ev.succ
    simp only [semblanceref01_Same.l0, h1, h2, if_true]
    rw [wrap_succ (by omega)]
    exact ih (n + 1) (by omega) (by omega)
theorem same_self_f (xs : List Int) (hx : xs.length ≤ 100000) : Ev (fun k => semblanceref01_Same.f k xs xs) true := by
  simp only [semblanceref01_Same.f, if_true]
  exact same_self xs hx xs.length 0 (by omega) (by omega)

end Go.Proofs.Ytfpmbognpacidaa.XM
