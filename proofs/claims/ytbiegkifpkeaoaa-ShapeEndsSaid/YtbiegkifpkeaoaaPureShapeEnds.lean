/- Whatever states and whatever place: all from it up to its end are it and those below it, all others are not. No condition. -/
import Derived.Test.YtbiegkifpkeaoaaXFuel
import Derived.Test.YtbiegkifpkeaoaaXShapePlain
import Derived.Test.YtbiegkifpkeaoaaXSlshape2
import Derived.Test.YtbiegkifpkeaoaaXSo
import Derived.Test.YtbiegkifpkeaoaaXSp1
import Derived.Test.YtbiegkifpkeaoaaXSp3
import Derived.Test.YtbiegkifpkeaoaaXSp8
namespace Go.Proofs.Ytbiegkifpkeaoaa.Pure
open Go.RowKit Go.Proofs.Ytbiegkifpkeaoaa.XRead Go.Proofs.Ytbiegkifpkeaoaa.XS Go.Proofs.YtbiegkifpkeaoaaW.PrintWords Go.Proofs.YtbiegkifpkeaoaaW.PrintLast Go.Proofs.YtbiegkifpkeaoaaW.PrintMore
open Go.Proofs.Ytbiegkifpkeaoaa.XFuel Go.Proofs.Ytbiegkifpkeaoaa.ShapePlain
set_option linter.unusedVariables false
set_option linter.unusedSimpArgs false
theorem awake_true2 : Ev (fun k => semblancelaw10_awake.f k) true := Ev.of (fun k => semblancelaw10_awake.mono k) (k := 40) (by decide +kernel)
theorem ends_loop (l : List (S102)) (hk : Okay l) (hd : shape_Check.f l = some 0) (i en : Nat) (hi : i < l.length) (he : isEnd l i (i + 1) en) : ∀ (d n : Nat), l.length - n = d → n ≤ l.length →
    Ev (fun k => semblancelaw10_ShapeEnds.l0 k l i en n) true := by
  have hl := hk.1
  intro d
  induction d with
  | zero =>
    intro n hd0 hn
    have h1 : ¬ ((n : Int) < (l.length : Int)) := by omega
    obtain ⟨h2, h3, _⟩ := he
    have h4 : (en : Int) > (i : Int) := by omega
    have h5 : (en : Int) ≤ (l.length : Int) := by omega
    apply Ev.succ
    simp only [semblancelaw10_ShapeEnds.l0, h1, h4, h5, if_true, if_false]
    exact Ev.bind awake_true2 (Ev.now _)
  | succ d ih =>
    intro n hd0 hn
    have h1 : (n : Int) < (l.length : Int) := by omega
    have hn' : n < l.length := by omega
    have hiff := end_iff l hk i en hi he n hn'
    have hmi : meet (Pf l) i n = i ↔ (i ≤ n ∧ n < en) := by
      rw [meet_eq_iff, chain, List.mem_cons, hiff]
      have := he.1
      omega
    have hrec := ih (n + 1) (by omega) (by omega)
    have w : wrap64 ((n : Int) + 1) = ((n + 1 : Nat) : Int) := wrap_succ (by omega)
    apply Ev.succ
    by_cases hge : (n : Int) ≥ (i : Int)
    · simp only [semblancelaw10_ShapeEnds.l0, h1, hge, if_true]
      refine Ev.bind (meet_f l hk hd i n hi hn') ?_
      have hb : ((decide ((n : Int) < (en : Int))) != (meet (Pf l) i n == (i : Int))) = false := by
        have : decide ((n : Int) < (en : Int)) = (meet (Pf l) i n == (i : Int)) := by
          rw [Bool.eq_iff_iff, decide_eq_true_iff, beq_iff_eq, hmi]; omega
        rw [this]; simp
      simp only [hb, Bool.false_eq_true, if_false, w]
      exact hrec
    · simp only [semblancelaw10_ShapeEnds.l0, h1, hge, if_true, if_false]
      refine Ev.bind (meet_f l hk hd i n hi hn') ?_
      have hb : (false != (meet (Pf l) i n == (i : Int))) = false := by
        have : (meet (Pf l) i n == (i : Int)) = false := by
          rw [beq_eq_false_iff_ne]; intro e; have := hmi.1 e; omega
        rw [this]; rfl
      simp only [hb, Bool.false_eq_true, if_false, w]
      exact hrec
theorem ShapeEnds : ∀ (l0 : List (S102)) (a1 : Int), (l0.length * 104 ≤ 140737488351232 ∧ ∀ y ∈ l0, F102 y) → ((Lit.int .i64 a1).wf = true) → ∃ k, semblancelaw10_ShapeEnds.f k l0 a1 = some true := by
  intro l i _ _
  refine Ev.rounds ?_
  have fin : Ev (fun k => semblancelaw10_ShapeEnds.j0 k l i true) true := by
    apply Ev.succ
    simp only [semblancelaw10_ShapeEnds.j0, if_true]
    exact Ev.bind awake_true2 (Ev.now _)
  by_cases h : (l.length : Int) > 60
  · simp only [semblancelaw10_ShapeEnds.f, h, if_true]; exact fin
  obtain ⟨c, hc, hcv⟩ := check_prog l
  simp only [semblancelaw10_ShapeEnds.f, h, if_false, hc, Option.bind_some]
  by_cases h0 : c = 0
  · subst h0
    obtain ⟨hk, hl1⟩ := check_zero hcv rfl
    by_cases h1 : i < 0
    · simp only [h1, if_true]; exact fin
    by_cases h2 : i ≥ (l.length : Int)
    · simp only [h1, h2, if_true, if_false, decide_true]; exact fin
    · obtain ⟨i, rfl⟩ := Int.eq_ofNat_of_zero_le (show 0 ≤ i by omega)
      have hi : i < l.length := by omega
      obtain ⟨en, hen, hiE⟩ := end_f l hk hc i hi
      simp only [h1, h2, if_true, if_false, decide_false]
      apply Ev.succ
      simp only [semblancelaw10_ShapeEnds.j0, Bool.false_eq_true, if_false]
      refine Ev.bind hen ?_
      exact ends_loop l hk hc i en hi hiE l.length 0 (by omega) (by omega)
  · simp only [h0, if_false]; exact fin

end Go.Proofs.Ytbiegkifpkeaoaa.Pure
