/- Whatever terms: of a sound expression the parts below the first lie one behind the other, fill it, are sound, and are less deep. No condition. -/
import Derived.Test.YtjlegibfeenglaaXFuel
import Derived.Test.YtjlegibfeenglaaXTermPlain
import Derived.Test.YtjlegibfeenglaaXUlnames
import Derived.Test.YtjlegibfeenglaaXUlterm
import Derived.Test.YtjlegibfeenglaaXUltermcheck
import Derived.Test.YtjlegibfeenglaaXUltermfold
import Derived.Test.YtjlegibfeenglaaXUltermlight
import Derived.Test.YtjlegibfeenglaaXUltermparts
import Derived.Test.YtjlegibfeenglaaXUo
import Derived.Test.YtjlegibfeenglaaXUp7
namespace Go.Proofs.Ytjlegibfeenglaa.Pure
open Go.RowKit Go.Proofs.Ytjlegibfeenglaa.XRead Go.Proofs.Ytjlegibfeenglaa.XU Go.Proofs.YtjlegibfeenglaaW.PrintWords Go.Proofs.YtjlegibfeenglaaW.PrintLast Go.Proofs.YtjlegibfeenglaaW.PrintMore
open Go.Proofs.Ytjlegibfeenglaa.XFuel Go.Proofs.Ytjlegibfeenglaa.TermPlain
set_option linter.unusedVariables false
set_option linter.unusedSimpArgs false
theorem TermParts : ∀ (l0 : List (S117)), (l0.length * 32 ≤ 140737488351232 ∧ ∀ y ∈ l0, F117 y) → ∃ k, semblancelaw05_TermParts.f k l0 = some true := by
  intro l _
  refine Ev.rounds ?_
  have j0 : ∀ b : Bool, (b = false → l.length ≤ 40 ∧ chk l = 0) → Ev (fun k => semblancelaw05_TermParts.j0 k l b) true := by
    intro b hb
    apply Ev.succ
    cases b with
    | true => simp only [semblancelaw05_TermParts.j0, if_true]; exact Ev.bind awake_ev (Ev.now _)
    | false =>
      obtain ⟨hl, hc⟩ := hb rfl
      simp only [semblancelaw05_TermParts.j0, Bool.false_eq_true, if_false]
      unfold chk at hc
      rw [if_neg (by omega)] at hc
      by_cases hw : E (aOf l) l.length 0 = some l.length
      · rw [if_pos hw] at hc
        have h0 := E_lt hw
        cases hm : l.any (fun x => !mayB x.f0 x.f1 x.f2) with
        | true => rw [hm, if_pos rfl] at hc; exact absurd hc (by decide)
        | false =>
          rw [hm, if_neg (by decide)] at hc
          have hd : vI l MKd 0 ≤ 12 := by
            apply Classical.byContradiction
            intro h
            rw [if_pos (by omega)] at hc
            exact absurd hc (by decide)
          refine Ev.bind (below_prog_f l (by omega) 0 _ hw) ?_
          have h2 := hw
          rw [E_eq ⟨by omega, h0.2.2⟩] at h2
          have hb : bl (aOf l) l.length 0 = starts (aOf l) l.length (aOf l 0).toNat 1 := rfl
          exact parts_loop l hl hw hm hd (aOf l 0).toNat 0 1 (by rw [hb, starts_length]; omega) (by rw [List.drop_zero]; exact hb) h2
      · rw [if_neg hw] at hc
        exact absurd hc (by decide)
  simp only [semblancelaw05_TermParts.f]
  by_cases h40 : (l.length : Int) > 40
  · simp only [h40, if_true]
    exact j0 true (fun h => by cases h)
  · simp only [h40, if_false]
    refine Ev.bind (check_prog l) (j0 _ ?_)
    intro h
    exact ⟨by omega, by simpa using h⟩

end Go.Proofs.Ytjlegibfeenglaa.Pure
