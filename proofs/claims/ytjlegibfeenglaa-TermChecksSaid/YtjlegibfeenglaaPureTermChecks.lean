/- Whatever terms and kind: the check's answer, the depth, the type and the names of a list of terms are the reference's. No condition. -/
import Derived.Test.YtjlegibfeenglaaXFind
import Derived.Test.YtjlegibfeenglaaXFuel
import Derived.Test.YtjlegibfeenglaaXTermPlain
import Derived.Test.YtjlegibfeenglaaXTlnames
import Derived.Test.YtjlegibfeenglaaXTlterm
import Derived.Test.YtjlegibfeenglaaXTltermcheck
import Derived.Test.YtjlegibfeenglaaXTltermfold
import Derived.Test.YtjlegibfeenglaaXTltermlight
import Derived.Test.YtjlegibfeenglaaXTo
import Derived.Test.YtjlegibfeenglaaXTp10
import Derived.Test.YtjlegibfeenglaaXTp6
namespace Go.Proofs.Ytjlegibfeenglaa.Pure
open Go.RowKit Go.Proofs.Ytjlegibfeenglaa.XRead Go.Proofs.Ytjlegibfeenglaa.XT Go.Proofs.YtjlegibfeenglaaW.PrintWords Go.Proofs.YtjlegibfeenglaaW.PrintLast Go.Proofs.YtjlegibfeenglaaW.PrintMore
open Go.Proofs.Ytjlegibfeenglaa.XFuel Go.Proofs.Ytjlegibfeenglaa.TermPlain
set_option linter.unusedVariables false
set_option linter.unusedSimpArgs false
theorem TermChecks : ∀ (l0 : List (S117)) (a1 : Int), (l0.length * 32 ≤ 140737488351232 ∧ ∀ y ∈ l0, F117 y) → ((Lit.int .i64 a1).wf = true) → ∃ k, semblancelaw05_TermChecks.f k l0 a1 = some true := by
  intro l kind _ _
  refine Ev.rounds ?_
  obtain ⟨b, hb, hbv⟩ := light_ev l
  simp only [semblancelaw05_TermChecks.f]
  refine Ev.bind hb ?_
  cases b with
  | false =>
    simp only [Bool.false_eq_true, if_false]
    exact Ev.bind awake_ev (Ev.now _)
  | true =>
    have hl := hbv rfl
    simp only [if_true]
    have hD := fold_prog l mk_depth
    have hT := fold_prog l (MK := MKt) (mk := fun k op vs => term_typed.f k op vs) mk_type
    obtain ⟨ns, hn1, hn2⟩ := names_both l kind (by omega)
    have j0 : ∀ d t : Int, d = (if l.length ≤ 40 ∧ E (aOf l) l.length 0 = some l.length then vI l MKd 0 else 0) → t = (if l.length ≤ 40 ∧ E (aOf l) l.length 0 = some l.length then vI l MKt 0 else 0) →
        Ev (fun k => semblancelaw05_TermChecks.j0 k l kind d t) true := by
      intro d t hd ht
      apply Ev.succ
      simp only [semblancelaw05_TermChecks.j0]
      refine Ev.bind (check_prog l) (Ev.bind (check_ref l) ?_)
      simp only [if_true]
      refine Ev.bind hD ?_
      simp only [← hd, if_true]
      refine Ev.bind hT ?_
      simp only [← ht, if_true]
      refine Ev.bind hn1 (Ev.bind hn2.1 (Ev.bind (texts_self ns hn2.2) ?_))
      simp only [if_true]
      exact Ev.bind awake_ev (Ev.now _)
    refine Ev.bind (whole_ref l) ?_
    by_cases h : l.length ≤ 40 ∧ E (aOf l) l.length 0 = some l.length
    · have h0 := E_lt h.2
      simp only [decide_eq_true h, if_true]
      refine Ev.bind (depth_ref l h.1 h.2 _ 0 (Nat.le_refl _) (by omega)) (Ev.bind (type_ref l h.1 h.2 _ 0 (Nat.le_refl _) (by omega)) ?_)
      exact j0 _ _ (by rw [if_pos h]) (by rw [if_pos h])
    · simp only [decide_eq_false h, Bool.false_eq_true, if_false]
      exact j0 _ _ (by rw [if_neg h]) (by rw [if_neg h])

end Go.Proofs.Ytjlegibfeenglaa.Pure
