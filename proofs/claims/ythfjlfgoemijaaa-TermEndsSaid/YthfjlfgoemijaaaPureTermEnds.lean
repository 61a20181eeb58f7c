/- Whatever terms, place and number: the place behind an expression, where those below begin, and how many there are are the reference's. No condition. -/
import Derived.Test.YthfjlfgoemijaaaXFuel
import Derived.Test.YthfjlfgoemijaaaXTermPlain
import Derived.Test.YthfjlfgoemijaaaXTlsame
import Derived.Test.YthfjlfgoemijaaaXTlterm
import Derived.Test.YthfjlfgoemijaaaXTltermlight
import Derived.Test.YthfjlfgoemijaaaXTo
import Derived.Test.YthfjlfgoemijaaaXTp8
namespace Go.Proofs.Ythfjlfgoemijaaa.Pure
open Go.RowKit Go.Proofs.Ythfjlfgoemijaaa.XRead Go.Proofs.Ythfjlfgoemijaaa.XT Go.Proofs.YthfjlfgoemijaaaW.PrintWords Go.Proofs.YthfjlfgoemijaaaW.PrintLast Go.Proofs.YthfjlfgoemijaaaW.PrintMore
open Go.Proofs.Ythfjlfgoemijaaa.XFuel Go.Proofs.Ythfjlfgoemijaaa.TermPlain
set_option linter.unusedVariables false
set_option linter.unusedSimpArgs false
theorem TermEnds : ∀ (l0 : List (S57)) (a1 : Int) (a2 : Int), (l0.length * 32 ≤ 140737488351232 ∧ ∀ y ∈ l0, F57 y) → ((Lit.int .i64 a1).wf = true) → ((Lit.int .i64 a2).wf = true) → ∃ k, semblancelaw05_TermEnds.f k l0 a1 a2 = some true := by
  intro l i op _ _ _
  refine Ev.rounds ?_
  obtain ⟨b, hb, hbv⟩ := light_ev l
  simp only [semblancelaw05_TermEnds.f]
  refine Ev.bind hb ?_
  cases b with
  | false =>
    simp only [Bool.false_eq_true, if_false]
    exact Ev.bind awake_ev (Ev.now _)
  | true =>
    have hl := hbv rfl
    simp only [if_true]
    refine Ev.bind (end_prog_f l (by omega) i) ?_
    by_cases hneg : EI l i < 0
    · refine Ev.bind (below_prog_none l (by omega) i hneg) (Ev.bind (end_ref_f l (by omega) i) ?_)
      simp only [if_true]
      refine Ev.bind (arity_prog op) ?_
      simp only [arity_ref, Option.bind_some, bne_self_eq_false]
      apply Ev.succ
      simp only [semblancelaw05_TermEnds.j0, hneg, if_true, Bool.false_eq_true, if_false, List.length_nil, Int.ofNat_zero, Int.natCast_zero]
      exact Ev.bind awake_ev (Ev.now _)
    · have hi0 : ¬ (i < 0) := fun h => hneg (by unfold EI; rw [if_pos h]; decide)
      obtain ⟨i, rfl⟩ := Int.eq_ofNat_of_zero_le (show 0 ≤ i by omega)
      cases he : E (aOf l) l.length i with
      | none => exact absurd (by rw [EI_nat, he]; decide) hneg
      | some e =>
        have hlen : (blI l i).length ≤ 2 := by
          unfold blI bl
          rw [List.length_map, starts_length]
          have : aOf l i = ar (opOf l i) := rfl
          have := ar_le (opOf l i)
          omega
        refine Ev.bind (below_prog_f l (by omega) i e he) (Ev.bind (end_ref_f l (by omega) i) ?_)
        simp only [if_true]
        refine Ev.bind (arity_prog op) ?_
        simp only [arity_ref, Option.bind_some, bne_self_eq_false]
        apply Ev.succ
        simp only [semblancelaw05_TermEnds.j0, hneg, Bool.false_eq_true, if_false]
        refine Ev.bind (below_ref_f l (by omega) i e he) (Ev.bind (same_self_f _ (by omega)) ?_)
        simp only [if_true]
        exact Ev.bind awake_ev (Ev.now _)

end Go.Proofs.Ythfjlfgoemijaaa.Pure
