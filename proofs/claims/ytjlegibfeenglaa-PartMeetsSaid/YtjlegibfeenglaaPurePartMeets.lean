/- Any two numberings of places: the program's meet of them is their meet, and what is finer than both is finer than it. No condition. -/
import Derived.Test.YtjlegibfeenglaaXFuel
import Derived.Test.YtjlegibfeenglaaXNumber
import Derived.Test.YtjlegibfeenglaaXPlpart
import Derived.Test.YtjlegibfeenglaaXPo
import Derived.Test.YtjlegibfeenglaaXPp2
import Derived.Test.YtjlegibfeenglaaXPp4
namespace Go.Proofs.Ytjlegibfeenglaa.Pure
open Go.RowKit Go.Proofs.Ytjlegibfeenglaa.XRead Go.Proofs.Ytjlegibfeenglaa.XP Go.Proofs.YtjlegibfeenglaaW.PrintWords Go.Proofs.YtjlegibfeenglaaW.PrintLast Go.Proofs.YtjlegibfeenglaaW.PrintMore
open Go.Proofs.Ytjlegibfeenglaa.XFuel Go.Proofs.Ytjlegibfeenglaa.XNumber
set_option linter.unusedVariables false
set_option linter.unusedSimpArgs false
theorem awake_true : semblancelaw31_awake.f = some true := rfl
theorem meet_finer1 {p q : List Int} (hl : p.length = q.length) : FinerP (numF (p.zip q)) p ∧ FinerP (numF (p.zip q)) q := by
  have hz : (p.zip q).length = p.length := by rw [List.length_zip]; omega
  constructor
  all_goals
    intro i k hk hi he
    rw [numF_length] at hi
    have h := (numF_same (p.zip q) i k hi (by omega)).1 (by simpa [rd] using he)
    rw [List.getElem_zip, List.getElem_zip] at h
    rw [rd_get (by omega), rd_get (by omega)]
    injection h with h1 h2
theorem meet_finer2 {p q r : List Int} (hl : p.length = q.length) (hr : r.length = p.length) (h1 : FinerP r p) (h2 : FinerP r q) : FinerP r (numF (p.zip q)) := by
  have hz : (p.zip q).length = p.length := by rw [List.length_zip]; omega
  intro i k hk hi he
  have e1 := h1 i k hk hi he
  have e2 := h2 i k hk hi he
  rw [rd_get (by omega), rd_get (by omega)] at e1 e2
  have := (numF_same (p.zip q) i k (by omega) (by omega)).2 (by rw [List.getElem_zip, List.getElem_zip, e1, e2])
  simpa [rd] using this
theorem PartMeets : ∀ (l0 : List Int) (l1 : List Int) (l2 : List Int), (l0.length * 8 ≤ 140737488351232 ∧ ∀ y ∈ l0, (Lit.int .i64 y).wf = true) → (l1.length * 8 ≤ 140737488351232 ∧ ∀ y ∈ l1, (Lit.int .i64 y).wf = true) → (l2.length * 8 ≤ 140737488351232 ∧ ∀ y ∈ l2, (Lit.int .i64 y).wf = true) → ∃ k, semblancelaw31_PartMeets.f k l0 l1 l2 = some true := by
  intro p q r ⟨_, hp⟩ ⟨_, hq⟩ ⟨_, hr⟩
  refine Ev.rounds ?_
  have aw : ∀ x0 x1 x2, Ev (fun k => semblancelaw31_PartMeets.j0 k x0 x1 x2 true) true := by
    intro x0 x1 x2
    apply Ev.succ
    simp only [semblancelaw31_PartMeets.j0, if_true, awake_true]
    exact Ev.now _
  unfold semblancelaw31_PartMeets.f
  by_cases c0 : (p.length : Int) > 40
  · simp only [c0, if_true]; exact aw _ _ _
  by_cases c1 : (q.length : Int) > 40
  · simp only [c0, c1, if_true, if_false]; exact aw _ _ _
  by_cases c2 : (r.length : Int) > 40
  · simp only [c0, c1, c2, if_false, decide_true]; exact aw _ _ _
  simp only [c0, c1, c2, if_false, decide_false]
  apply Ev.succ
  simp only [semblancelaw31_PartMeets.j0, Bool.false_eq_true, if_false]
  by_cases hl : p.length = q.length
  · have hl' : (p.length : Int) = (q.length : Int) := by omega
    have hz : (p.zip q).length = p.length := by rw [List.length_zip]; omega
    have hn : (numF (p.zip q)).length = p.length := by rw [numF_length, hz]
    have hwm : Wf (numF (p.zip q)) := numF_wf (by omega)
    rw [meet_f hl (by omega) hp hq]
    simp only [Option.bind_some, hl', if_true]
    obtain ⟨v1, e1, i1⟩ := pfiner hl (by omega) hp hq
    obtain ⟨v2, e2, i2⟩ := rfiner (a := p) (b := q) (by omega) hl
    have hv : v1 = v2 := by rw [Bool.eq_iff_iff, i1, i2]
    subst hv
    refine Ev.bind e1 (Ev.bind e2 ?_)
    have hnl : ((numF (p.zip q)).length : Int) = (q.length : Int) := by omega
    simp only [bne_self_eq_false, Bool.false_eq_true, if_false, hnl, if_true]
    refine Ev.bind (is_f (by omega) hwm (run_numF (p.zip q)).2) ?_
    simp only [if_true]
    obtain ⟨v3, e3, i3⟩ := rfiner (a := numF (p.zip q)) (b := p) (by omega) hn
    obtain ⟨v4, e4, i4⟩ := rfiner (a := numF (p.zip q)) (b := q) (by omega) (by omega)
    have h3 : v3 = true := i3.2 (meet_finer1 hl).1
    have h4 : v4 = true := i4.2 (meet_finer1 hl).2
    subst h3
    subst h4
    refine Ev.bind e3 ?_
    simp only [if_true]
    refine Ev.bind e4 ?_
    simp only [Bool.not_true]
    apply Ev.succ
    simp only [semblancelaw31_PartMeets.j1, Bool.false_eq_true, if_false]
    have j2t : ∀ x2 x7, Ev (fun k => semblancelaw31_PartMeets.j2 k x2 x7 true) true := by
      intro x2 x7
      apply Ev.succ
      simp only [semblancelaw31_PartMeets.j2, if_true, awake_true]
      exact Ev.now _
    by_cases hrl : r.length = p.length
    · have hrl' : (r.length : Int) = (p.length : Int) := by omega
      simp only [hrl', if_true]
      obtain ⟨v5, e5, i5⟩ := rfiner (a := r) (b := p) (by omega) hrl
      obtain ⟨v6, e6, i6⟩ := rfiner (a := r) (b := q) (by omega) (by omega)
      refine Ev.bind e5 ?_
      cases v5 with
      | false => simp only [Bool.false_eq_true, if_false]; exact j2t _ _
      | true =>
        simp only [if_true]
        refine Ev.bind e6 ?_
        cases v6 with
        | false => simp only [Bool.not_false]; exact j2t _ _
        | true =>
          simp only [Bool.not_true]
          obtain ⟨v7, e7, i7⟩ := pfiner (p := r) (q := numF (p.zip q)) (by omega) (by omega) hr hwm
          have h7 : v7 = true := i7.2 (meet_finer2 hl hrl (i5.1 rfl) (i6.1 rfl))
          subst h7
          apply Ev.succ
          simp only [semblancelaw31_PartMeets.j2, Bool.false_eq_true, if_false]
          refine Ev.bind e7 ?_
          simp only [if_true, awake_true]
          exact Ev.now _
    · have hrl' : ¬ ((r.length : Int) = (p.length : Int)) := by omega
      simp only [hrl', if_false]
      exact j2t _ _
  · have hl' : ¬ ((p.length : Int) = (q.length : Int)) := by omega
    rw [meet_ne hl]
    simp only [Option.bind_some, hl', if_false, List.length_nil]
    simp only [Int.natCast_zero, if_true]
    refine Ev.bind (pfiner_ne hl) ?_
    simp only [Bool.false_eq_true, if_false, awake_true]
    exact Ev.now _

end Go.Proofs.Ytjlegibfeenglaa.Pure
