/-
  A chart's flaws are those of all rules; it is sound just if it may be told, and all rules are kept; for all charts.
  Conditions: none but the given statement's own.
-/
import Derived.Test.YtbkaiojofgmbnaaGreatXFuel
import Derived.Test.YtbkaiojofgmbnaaGreatXSl
import Derived.Test.YtbkaiojofgmbnaaGreatXSo
import Derived.Test.YtbkaiojofgmbnaaGreatXSp11
import Derived.Test.YtbkaiojofgmbnaaGreatXSp13
namespace Go.Proofs.YtbkaiojofgmbnaaGreat.Pure
open Go.RowKit Go.Proofs.YtbkaiojofgmbnaaGreat.XRead Go.Proofs.YtbkaiojofgmbnaaGreat.XS Go.Proofs.YtbkaiojofgmbnaaGreatW.PrintWords Go.Proofs.YtbkaiojofgmbnaaGreatW.PrintLast Go.Proofs.YtbkaiojofgmbnaaGreatW.PrintMore
open Go.Proofs.YtbkaiojofgmbnaaGreat.XFuel
set_option linter.unusedVariables false
set_option linter.unusedSimpArgs false
theorem awake15_ev : Ev (fun k => semblancelaw15_awake.f k) true := Ev.of (fun k => semblancelaw15_awake.mono k) (k := 60) (by decide +kernel)
theorem SoundOf : ∀ (a0_0 : ByteArray) (l0_1 : List ByteArray) (l0_2 : List (S50)) (l0_3 : List (S46)), (F26 (⟨a0_0, l0_1, l0_2, l0_3⟩ : S26)) → ∃ k, semblancelaw15_SoundOf.f k a0_0 l0_1 l0_2 l0_3 = some true := by
  intro a0 l1 l2 l3 _
  suffices h : Ev (fun k => semblancelaw15_SoundOf.f k a0 l1 l2 l3) true by
    obtain ⟨K, hK⟩ := h
    exact ⟨K, hK K (Nat.le_refl _)⟩
  obtain ⟨b, hb, hbl⟩ := light_ev a0 l1 l2 l3
  unfold semblancelaw15_SoundOf.f
  refine Ev.bind hb ?_
  cases b with
  | false => exact Ev.bind awake15_ev (Ev.now _)
  | true =>
    obtain ⟨_, _, h65⟩ := hbl rfl
    simp only [if_true]
    rcases sound_all a0 l1 l2 l3 (by omega) with ⟨hm, hof, his, hir⟩ | ⟨_, hm, fl, hl, hof, hor, his, hir⟩
    · refine Ev.bind hof (Ev.bind his (Ev.bind hir ?_))
      refine Ev.bind hm ?_
      exact Ev.bind awake15_ev (Ev.now _)
    · refine Ev.bind hof (Ev.bind his (Ev.bind hir ?_))
      have hn : (((fl.length : Int) == 0) != ((fl.length : Int) == 0)) = false := by simp
      simp only [hn, Bool.false_eq_true, if_false]
      refine Ev.bind hm ?_
      simp only [if_true]
      refine Ev.bind hor (Ev.bind (flaws_same2 fl hl) ?_)
      simp only [if_true]
      refine Ev.bind his ?_
      simp only [beq_self_eq_true, if_true]
      exact Ev.bind awake15_ev (Ev.now _)

end Go.Proofs.YtbkaiojofgmbnaaGreat.Pure
