/-
  Where any rule is broken is told as the definition tells it, for all charts that may be told, and all rules.
  Conditions: none but the given statement's own.
-/
import Derived.Test.YtoeioigpkfgppaaXFuel
import Derived.Test.YtoeioigpkfgppaaXRlrules5
import Derived.Test.YtoeioigpkfgppaaXRo
import Derived.Test.YtoeioigpkfgppaaXRp10
import Derived.Test.YtoeioigpkfgppaaXRp14
namespace Go.Proofs.Ytoeioigpkfgppaa.Pure
open Go.RowKit Go.Proofs.Ytoeioigpkfgppaa.XRead Go.Proofs.Ytoeioigpkfgppaa.XR Go.Proofs.YtoeioigpkfgppaaW.PrintWords Go.Proofs.YtoeioigpkfgppaaW.PrintLast Go.Proofs.YtoeioigpkfgppaaW.PrintMore
open Go.Proofs.Ytoeioigpkfgppaa.XFuel
set_option linter.unusedVariables false
set_option linter.unusedSimpArgs false
theorem RulesBroken : ∀ (a0_0 : ByteArray) (l0_1 : List ByteArray) (l0_2 : List (S51)) (l0_3 : List (S55)) (a1 : Int), (F26 (⟨a0_0, l0_1, l0_2, l0_3⟩ : S26)) → ((Lit.int .i64 a1).wf = true) → ∃ k, semblancelaw14_RulesBroken.f k a0_0 l0_1 l0_2 l0_3 a1 = some true := by
  intro a0 l1 l2 l3 a1 _ _
  suffices h : Ev (fun k => semblancelaw14_RulesBroken.f k a0 l1 l2 l3 a1) true by
    obtain ⟨K, hK⟩ := h
    exact ⟨K, hK K (Nat.le_refl _)⟩
  have ht : Ev (fun k => semblancelaw14_RulesBroken.j0 k a1 true a0 l1 l2 l3) true := Ev.succ (by
    simp only [semblancelaw14_RulesBroken.j0, if_true]
    exact Ev.bind awake14_ev (Ev.now _))
  obtain ⟨b, hb, hbl⟩ := light_ev a0 l1 l2 l3
  unfold semblancelaw14_RulesBroken.f
  refine Ev.bind hb ?_
  cases b with
  | false => simp only [Bool.false_eq_true, if_false]; exact ht
  | true =>
    obtain ⟨_, _, h65⟩ := hbl rfl
    simp only [if_true]
    obtain ⟨c, hc, hF⟩ := may_ev a0 l1 l2 l3 (by omega)
    refine Ev.bind hc ?_
    cases c with
    | false => exact ht
    | true =>
      have F := hF rfl
      show Ev (fun k => semblancelaw14_RulesBroken.j0 k a1 false a0 l1 l2 l3) true
      have hn : (a1 < 1 ∨ 10 < a1) → Ev (fun k => rules_Broken.f k a0 l1 l2 l3 a1) [] := fun h => broken_none F a1 h
      have hf : ∀ k', k' = false → (a1 < 1 ∨ 10 < a1) → Ev (fun k => semblancelaw14_RulesBroken.j1 k a1 [] [] k' a0 l1 l2 l3) true := fun k' e h => by
        subst e
        refine Ev.succ ?_
        simp only [semblancelaw14_RulesBroken.j1, Bool.false_eq_true, if_false]
        refine Ev.bind (flaws_same [] (by simp)) ?_
        simp only [if_true]
        refine Ev.bind (kept_ev (hn h)) ?_
        simp only [beq_self_eq_true, if_true]
        exact Ev.bind awake14_ev (Ev.now _)
      refine Ev.succ ?_
      simp only [semblancelaw14_RulesBroken.j0, Bool.false_eq_true, if_false]
      by_cases h1 : a1 ≥ 1
      · by_cases h10 : a1 ≤ 10
        · obtain ⟨fl, p1, p2, p3⟩ := broken_all (a0 := a0) F a1 ⟨by omega, h10⟩
          refine Ev.bind p1 (Ev.bind (Ev.now _) ?_)
          simp only [h1, h10, if_true, decide_true]
          refine Ev.succ ?_
          simp only [semblancelaw14_RulesBroken.j1, if_true]
          refine Ev.bind p2 (Ev.bind (flaws_same fl p3) ?_)
          simp only [if_true]
          refine Ev.bind (kept_ev p1) ?_
          simp only [beq_self_eq_true, if_true]
          exact Ev.bind awake14_ev (Ev.now _)
        · refine Ev.bind (hn (by omega)) (Ev.bind (Ev.now _) ?_)
          simp only [h1, if_true]
          exact hf _ (decide_eq_false h10) (by omega)
      · refine Ev.bind (hn (by omega)) (Ev.bind (Ev.now _) ?_)
        simp only [h1, if_false]
        exact hf _ rfl (by omega)

end Go.Proofs.Ytoeioigpkfgppaa.Pure
