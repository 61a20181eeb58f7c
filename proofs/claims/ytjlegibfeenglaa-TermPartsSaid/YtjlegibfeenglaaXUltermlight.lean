import Derived.Test.YtjlegibfeenglaaXFuel
import Derived.Test.YtjlegibfeenglaaXUo
import Derived.Test.YtjlegibfeenglaaXUp6
import Derived.Test.YtjlegibfeenglaaXUp7
namespace Go.Proofs.Ytjlegibfeenglaa.XU
open Go.RowKit Go.Proofs.Ytjlegibfeenglaa.XRead Go.Proofs.Ytjlegibfeenglaa.XU Go.Proofs.YtjlegibfeenglaaW.PrintWords Go.Proofs.YtjlegibfeenglaaW.PrintLast Go.Proofs.YtjlegibfeenglaaW.PrintMore
open Go.Proofs.Ytjlegibfeenglaa.XFuel
set_option linter.unusedVariables false
set_option linter.unusedSimpArgs false
theorem awake_ev : Ev (fun k => semblancelaw05_awake.f k) true := Ev.of (fun k => semblancelaw05_awake.mono k) (k := 60) (by decide +kernel)
theorem light_loop (l : List (S117)) : ∀ (d n : Nat), 100 - n = d → n ≤ 100 → n ≤ l.length → ∃ b, Ev (fun k => semblancelaw05_light.l0 k l n) b ∧ (b = true → l.length < 100) := by
  intro d
  induction d with
  | zero =>
    intro n hd hn hl
    obtain rfl : n = 100 := by omega
    refine ⟨decide ((l.length : Int) < 100), ?_, by simp; omega⟩
    apply Ev.succ
    have h1 : decide (((100 : Nat) : Int) < 100) = false := by decide
    by_cases h : ((100 : Nat) : Int) < (l.length : Int)
    · simp only [semblancelaw05_light.l0, h, h1, if_true]
      apply Ev.succ
      simp only [semblancelaw05_light.j1, Bool.false_eq_true, if_false]
      exact Ev.now _
    · simp only [semblancelaw05_light.l0, h, if_false]
      apply Ev.succ
      simp only [semblancelaw05_light.j1, Bool.false_eq_true, if_false]
      exact Ev.now _
  | succ d ih =>
    intro n hd hn hl
    by_cases h : (n : Int) < (l.length : Int)
    · have h1 : decide ((n : Int) < 100) = true := decide_eq_true (by omega)
      have h2 : (0 : Int) ≤ (n : Int) := by omega
      by_cases hs : ((rd_T117 l (n : Int)).f2.size : Int) > 100
      · refine ⟨false, ?_, by simp⟩
        apply Ev.succ
        simp only [semblancelaw05_light.l0, h, h1, if_true]
        apply Ev.succ
        simp only [semblancelaw05_light.j1, h, h2, hs, if_true]
        exact Ev.now _
      · obtain ⟨b, hb, hbv⟩ := ih (n + 1) (by omega) (by omega) (by omega)
        refine ⟨b, ?_, hbv⟩
        apply Ev.succ
        simp only [semblancelaw05_light.l0, h, h1, if_true]
        apply Ev.succ
        simp only [semblancelaw05_light.j1, h, h2, hs, if_true, if_false]
        rw [wrap_succ (by omega)]
        exact hb
    · refine ⟨decide ((l.length : Int) < 100), ?_, fun h => by have := of_decide_eq_true h; omega⟩
      apply Ev.succ
      simp only [semblancelaw05_light.l0, h, if_false]
      apply Ev.succ
      simp only [semblancelaw05_light.j1, Bool.false_eq_true, if_false]
      exact Ev.now _
theorem light_ev (l : List (S117)) : ∃ b, Ev (fun k => semblancelaw05_light.f k l) b ∧ (b = true → l.length < 100) := light_loop l 100 0 rfl (by omega) (Nat.zero_le _)

end Go.Proofs.Ytjlegibfeenglaa.XU
