/-
  Where all rules are broken is told as the definition tells it, for all charts that may be told.
  Conditions: none but the given statement's own.
-/
import Derived.Test.YtoeioigpkfgppaaXFuel
import Derived.Test.YtoeioigpkfgppaaXRlrules5
import Derived.Test.YtoeioigpkfgppaaXRo
import Derived.Test.YtoeioigpkfgppaaXRp14
namespace Go.Proofs.Ytoeioigpkfgppaa.Pure
open Go.RowKit Go.Proofs.Ytoeioigpkfgppaa.XRead Go.Proofs.Ytoeioigpkfgppaa.XR Go.Proofs.YtoeioigpkfgppaaW.PrintWords Go.Proofs.YtoeioigpkfgppaaW.PrintLast Go.Proofs.YtoeioigpkfgppaaW.PrintMore
open Go.Proofs.Ytoeioigpkfgppaa.XFuel
set_option linter.unusedVariables false
set_option linter.unusedSimpArgs false
theorem RulesAll : ∀ (a0_0 : ByteArray) (l0_1 : List ByteArray) (l0_2 : List (S51)) (l0_3 : List (S55)), (F26 (⟨a0_0, l0_1, l0_2, l0_3⟩ : S26)) → ∃ k, semblancelaw14_RulesAll.f k a0_0 l0_1 l0_2 l0_3 = some true := by
  intro a0 l1 l2 l3 _
  suffices h : Ev (fun k => semblancelaw14_RulesAll.f k a0 l1 l2 l3) true by
    obtain ⟨K, hK⟩ := h
    exact ⟨K, hK K (Nat.le_refl _)⟩
  have ht : Ev (fun k => semblancelaw14_RulesAll.j0 k true a0 l1 l2 l3) true := Ev.succ (by
    simp only [semblancelaw14_RulesAll.j0, if_true]
    exact Ev.bind awake14_ev (Ev.now _))
  obtain ⟨b, hb, hbl⟩ := light_ev a0 l1 l2 l3
  unfold semblancelaw14_RulesAll.f
  refine Ev.bind hb ?_
  cases b with
  | false => simp only [Bool.false_eq_true, if_false]; exact ht
  | true =>
    obtain ⟨_, _, h65⟩ := hbl rfl
    simp only [if_true]
    obtain ⟨c, hc, hF⟩ := may_ev a0 l1 l2 l3 (by omega)
    refine Ev.bind hc ?_
    cases c with
    | false => exact ht
    | true =>
      have F := hF rfl
      show Ev (fun k => semblancelaw14_RulesAll.j0 k false a0 l1 l2 l3) true
      have loop : ∀ (d : Nat) (x : Int), 11 - x = d → 1 ≤ x → Ev (fun k => semblancelaw14_RulesAll.l0 k x a0 l1 l2 l3) true := by
        intro d
        induction d with
        | zero =>
          intro x hd h1
          have h10 : ¬ x ≤ 10 := by omega
          refine Ev.succ ?_
          simp only [semblancelaw14_RulesAll.l0, h10, if_false]
          exact Ev.bind awake14_ev (Ev.now _)
        | succ d ih =>
          intro x hd h1
          have h10 : x ≤ 10 := by omega
          obtain ⟨fl, p1, p2, p3⟩ := broken_all (a0 := a0) F x ⟨h1, h10⟩
          refine Ev.succ ?_
          simp only [semblancelaw14_RulesAll.l0, h10, if_true]
          refine Ev.bind p1 (Ev.bind p2 (Ev.bind (flaws_same fl p3) ?_))
          simp only [if_true]
          have w : wrap64 (x + 1) = x + 1 := wrap_in (by omega) (by omega)
          rw [w]
          exact ih (x + 1) (by omega) (by omega)
      refine Ev.succ ?_
      simp only [semblancelaw14_RulesAll.j0, Bool.false_eq_true, if_false]
      exact loop 10 1 (by omega) (by omega)

end Go.Proofs.Ytoeioigpkfgppaa.Pure
