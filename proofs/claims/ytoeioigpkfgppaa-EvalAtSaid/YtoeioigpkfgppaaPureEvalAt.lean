/- Whatever expression and whatever Env: what it comes to, or why to nothing, and whether it holds, is the reference's. No condition. -/
import Derived.Test.YtoeioigpkfgppaaXFind
import Derived.Test.YtoeioigpkfgppaaXFuel
import Derived.Test.YtoeioigpkfgppaaXTermPlain
import Derived.Test.YtoeioigpkfgppaaXVleval3
import Derived.Test.YtoeioigpkfgppaaXVo
import Derived.Test.YtoeioigpkfgppaaXVp10
import Derived.Test.YtoeioigpkfgppaaXVp11
namespace Go.Proofs.Ytoeioigpkfgppaa.Pure
open Go.RowKit Go.Proofs.Ytoeioigpkfgppaa.XRead Go.Proofs.Ytoeioigpkfgppaa.XV Go.Proofs.YtoeioigpkfgppaaW.PrintWords Go.Proofs.YtoeioigpkfgppaaW.PrintLast Go.Proofs.YtoeioigpkfgppaaW.PrintMore
open Go.Proofs.Ytoeioigpkfgppaa.XFuel Go.Proofs.Ytoeioigpkfgppaa.TermPlain
set_option linter.unusedVariables false
set_option linter.unusedSimpArgs false
theorem EvalAt : ∀ (l0 : List (S47)) (l1_0 : List (S51)) (a1_1 : Int) (a1_2 : Int) (a1_3 : Int) (a1_4 : Int) (l1_5 : List ByteArray), (l0.length * 32 ≤ 140737488351232 ∧ ∀ y ∈ l0, F47 y) → (F36 (⟨l1_0, (⟨a1_1, a1_2, a1_3, a1_4⟩ : S34), l1_5⟩ : S36)) → ∃ k, semblancelaw07_EvalAt.f k l0 l1_0 a1_1 a1_2 a1_3 a1_4 l1_5 = some true := by
  intro l vs c1 c2 c3 c4 ins _ _
  refine Ev.rounds ?_
  obtain ⟨e, he⟩ : ∃ e : EnvT, e = ⟨vs, c1, c2, c3, c4, ins⟩ := ⟨_, rfl⟩
  obtain ⟨b, hb, hbv⟩ := light07_ev e l
  have hA := at_prog e l
  have hC := check7_ref e l
  have hP := check7_prog e l
  have hHp := holds_prog e l
  have hHr := holds_ref e l
  have hR : ∀ H : OKE e l, Ev (fun k => semblanceref07_At.f k l 0 e.vs e.c1 e.c2 e.c3 e.c4 e.ins) (vA e l 0) := fun H => at_ref H _ 0 (Nat.le_refl _) (by have := E_lt H.whole; omega)
  have hAns : ans e l = if chk7 e l = 0 then (vA e l 0, 0) else (0, chk7 e l) := rfl
  have hzero := @chk7_zero e l
  have hbool := @bool_val e l
  have hval := @vA_in e l
  generalize hv : vA e l 0 = v at *
  generalize hq : chk7 e l = q at *
  rw [he] at hb hbv hA hC hP hHp hHr hR
  dsimp only at hb hbv hA hC hP hHp hHr hR
  simp only [semblancelaw07_EvalAt.f]
  refine Ev.bind hb ?_
  cases b with
  | false =>
    simp only [Bool.false_eq_true, if_false]
    exact Ev.bind awake07_ev (Ev.now _)
  | true =>
    obtain ⟨hl, hi⟩ := hbv rfl
    have hA := hA hi
    have hHp := hHp hi
    have hHr := hHr hi
    rw [← he] at hA hHp hHr
    simp only [if_true]
    refine Ev.bind hA (Ev.bind hC (Ev.bind hP ?_))
    rw [hAns]
    simp only [if_true]
    by_cases hc : q = 0
    · obtain ⟨H, hT, _⟩ := hzero (by rw [he]; exact hi) hc
      have hw0 := E_lt H.whole
      have hvin := hval H _ 0 (Nat.le_refl _) (by omega)
      rw [hv] at hvin
      unfold In6 at hvin
      simp only [hc, if_true]
      refine Ev.bind hHp (Ev.bind hHr ?_)
      simp only [bne_self_eq_false]
      apply Ev.succ
      simp only [semblancelaw07_EvalAt.j0, Bool.false_eq_true, if_false, if_true]
      refine Ev.bind (hR (by rw [← he]; exact H)) ?_
      simp only [if_true, show ¬ (v < -1000000) by omega, if_false, show ¬ (v > 1000000) by omega, decide_false]
      apply Ev.succ
      simp only [semblancelaw07_EvalAt.j1, Bool.false_eq_true, if_false]
      refine Ev.bind (type_ref l H.len H.whole _ 0 (Nat.le_refl _) (by omega)) ?_
      by_cases ht : vI l MKt 0 = 2
      · simp only [ht, if_true]
        have h01 := hbool H (i := 0) (by omega) ht
        rw [hv] at h01
        rcases h01 with h | h
        · simp only [h, if_true]
          exact Ev.bind awake07_ev (Ev.now _)
        · simp only [h, if_true, show ¬ ((1 : Int) = 0) by decide, if_false]
          exact Ev.bind awake07_ev (Ev.now _)
      · simp only [ht, if_false]
        exact Ev.bind awake07_ev (Ev.now _)
    · simp only [hc, if_true, if_false]
      refine Ev.bind hHp (Ev.bind hHr ?_)
      simp only [bne_self_eq_false]
      apply Ev.succ
      simp only [semblancelaw07_EvalAt.j0, Bool.false_eq_true, if_false, if_true, hc]
      exact Ev.bind awake07_ev (Ev.now _)

end Go.Proofs.Ytoeioigpkfgppaa.Pure
