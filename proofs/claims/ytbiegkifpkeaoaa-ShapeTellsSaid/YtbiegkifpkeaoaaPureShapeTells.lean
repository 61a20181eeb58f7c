/- Whatever states and places are handed in: who is right below, who is above, how deep, where the end is and where two meet are the reference's. No condition. -/
import Derived.Test.YtbiegkifpkeaoaaXFuel
import Derived.Test.YtbiegkifpkeaoaaXShapePlain
import Derived.Test.YtbiegkifpkeaoaaXSlshape2
import Derived.Test.YtbiegkifpkeaoaaXSo
import Derived.Test.YtbiegkifpkeaoaaXSp1
import Derived.Test.YtbiegkifpkeaoaaXSp2
import Derived.Test.YtbiegkifpkeaoaaXSp3
import Derived.Test.YtbiegkifpkeaoaaXSp5
import Derived.Test.YtbiegkifpkeaoaaXSp7
namespace Go.Proofs.Ytbiegkifpkeaoaa.Pure
open Go.RowKit Go.Proofs.Ytbiegkifpkeaoaa.XRead Go.Proofs.Ytbiegkifpkeaoaa.XS Go.Proofs.YtbiegkifpkeaoaaW.PrintWords Go.Proofs.YtbiegkifpkeaoaaW.PrintLast Go.Proofs.YtbiegkifpkeaoaaW.PrintMore
open Go.Proofs.Ytbiegkifpkeaoaa.XFuel Go.Proofs.Ytbiegkifpkeaoaa.ShapePlain
set_option linter.unusedVariables false
set_option linter.unusedSimpArgs false
theorem awake_true : Ev (fun k => semblancelaw10_awake.f k) true := Ev.of (fun k => semblancelaw10_awake.mono k) (k := 40) (by decide +kernel)
theorem same_self (xs : List Int) (hx : xs.length ≤ 100000) : ∀ (d n : Nat), xs.length - n = d → n ≤ xs.length → Ev (fun k => semblanceref01_Same.l0 k xs xs n) true := by
  intro d
  induction d with
  | zero =>
    intro n hd hn
    have h1 : ¬ ((n : Int) < (xs.length : Int)) := by omega
    apply Ev.succ
    simp only [semblanceref01_Same.l0, h1, if_false]
    exact Ev.now _
  | succ d ih =>
    intro n hd hn
    have h1 : (n : Int) < (xs.length : Int) := by omega
    have h2 : (0 : Int) ≤ (n : Int) := by omega
    apply Ev.succ
    simp only [semblanceref01_Same.l0, h1, h2, if_true]
    rw [wrap_succ (by omega)]
    exact ih (n + 1) (by omega) (by omega)
theorem same_self_f (xs : List Int) (hx : xs.length ≤ 100000) : Ev (fun k => semblanceref01_Same.f k xs xs) true := by
  simp only [semblanceref01_Same.f, if_true]
  exact same_self xs hx xs.length 0 (by omega) (by omega)
theorem kd_length (l : List (S102)) (a : Int) : ∀ (d n : Nat), (kd l a d n).length ≤ d := by
  intro d
  induction d with
  | zero => intro n; simp [kd]
  | succ d ih =>
    intro n
    have := ih (n + 1)
    simp only [kd]
    split
    · rw [List.length_cons]; omega
    · omega
theorem none_right (l : List (S102)) (i j : Int) (c : Int) (hc : shape_Check.f l = some c) (hno : ¬ (c = 0 ∧ 0 ≤ i ∧ i < l.length)) (k : Nat) :
    shape_Kids.f k l i = some [] ∧ shape_Above.f k l i = some [] ∧ shape_Depth.f k l i = some 0 ∧ shape_End.f k l i = some 0 ∧ shape_Meet.f k l i j = some (-1) := by
  have h2 : ¬ (c = 0 ∧ (0 ≤ i ∧ i < l.length) ∧ 0 ≤ j ∧ j < l.length) := fun h => hno ⟨h.1, h.2.1⟩
  simp only [shape_Kids.f, shape_Above.f, shape_Depth.f, shape_End.f, shape_Meet.f, there_one l c hc, there_two l c hc, Option.bind_some, hno, h2, decide_false, Bool.false_eq_true, if_false]
  simp
theorem ShapeTells : ∀ (l0 : List (S102)) (a1 : Int) (a2 : Int), (l0.length * 104 ≤ 140737488351232 ∧ ∀ y ∈ l0, F102 y) → ((Lit.int .i64 a1).wf = true) → ((Lit.int .i64 a2).wf = true) → ∃ k, semblancelaw10_ShapeTells.f k l0 a1 a2 = some true := by
  intro l i j _ _ _
  refine Ev.rounds ?_
  by_cases h : (l.length : Int) > 100
  · simp only [semblancelaw10_ShapeTells.f, h, if_true]
    exact Ev.bind awake_true (Ev.now _)
  obtain ⟨c, hc, hcv⟩ := check_ref l (by omega)
  obtain ⟨d, hd, hdv⟩ := check_prog l
  have e := checked_one hcv hdv
  subst e
  simp only [semblancelaw10_ShapeTells.f, h, if_false]
  by_cases hno : c = 0 ∧ 0 ≤ i ∧ i < l.length
  · obtain ⟨rfl, hi0, hi1⟩ := hno
    obtain ⟨hk, hl1⟩ := check_zero hcv rfl
    have hl := hk.1
    obtain ⟨i, rfl⟩ := Int.eq_ofNat_of_zero_le hi0
    have hi : i < l.length := by omega
    obtain ⟨en, hen, hiE⟩ := end_f l hk hd i hi
    have n1 : ¬ ((i : Int) < 0) := by omega
    have n2 : ¬ ((i : Int) ≥ (l.length : Int)) := by omega
    have ha := anc_length (P := Pf l) i
    by_cases hj : 0 ≤ j ∧ j < l.length
    · obtain ⟨j, rfl⟩ := Int.eq_ofNat_of_zero_le hj.1
      have hj' : j < l.length := by omega
      refine Ev.bind (kids_f l hk hd i hi) (Ev.bind (above_f l hk hd i hi) (Ev.bind (depth_f l hk hd i hi) (Ev.bind hen (Ev.bind (meet_f l hk hd i j hi hj') (Ev.bind hc ?_)))))
      simp only [if_true, n1, n2, if_false, decide_false]
      apply Ev.succ
      simp only [semblancelaw10_ShapeTells.j0, Bool.false_eq_true, if_false]
      refine Ev.bind (above_ref_ok l hk i hi) (Ev.bind (kids_ref_f l (by omega) i) (Ev.bind (same_self_f _ (by have := kd_length l i l.length 0; omega)) ?_))
      simp only [if_true]
      refine Ev.bind (same_self_f _ (by omega)) ?_
      simp only [if_true]
      rw [wrap_in (by omega) (by omega)]
      simp only [if_true]
      refine Ev.bind (end_ref_f l hk i en hi hiE) ?_
      apply Ev.succ
      have n3 : ¬ ((j : Int) < 0) := by omega
      have n4 : ¬ ((j : Int) ≥ (l.length : Int)) := by omega
      simp only [semblancelaw10_ShapeTells.j1, bne_self_eq_false, Bool.false_eq_true, if_false, n3, n4, decide_false]
      apply Ev.succ
      simp only [semblancelaw10_ShapeTells.j2, Bool.false_eq_true, if_false]
      refine Ev.bind (meet_ref_f l hk i j hi hj') ?_
      simp only [if_true]
      refine Ev.bind (meet_f l hk hd j i hj' hi) ?_
      have hcomm := meet_comm hk.2 (j + i) j i (Nat.le_refl _) hj' hi
      simp only [hcomm, if_true]
      exact Ev.bind awake_true (Ev.now _)
    · have hm : ∀ k, shape_Meet.f k l i j = some (-1) := fun k => by
        have h2 : shape_there.f l [(i : Int), j] = some false := by
          rw [there_two l 0 hd, decide_eq_false (fun h => hj h.2.2)]
        simp only [shape_Meet.f, h2, Option.bind_some, Bool.false_eq_true, if_false]
      refine Ev.bind (kids_f l hk hd i hi) (Ev.bind (above_f l hk hd i hi) (Ev.bind (depth_f l hk hd i hi) (Ev.bind hen ?_)))
      simp only [hm, Option.bind_some]
      refine Ev.bind hc ?_
      simp only [if_true, n1, n2, if_false, decide_false]
      apply Ev.succ
      simp only [semblancelaw10_ShapeTells.j0, Bool.false_eq_true, if_false]
      refine Ev.bind (above_ref_ok l hk i hi) (Ev.bind (kids_ref_f l (by omega) i) (Ev.bind (same_self_f _ (by have := kd_length l i l.length 0; omega)) ?_))
      simp only [if_true]
      refine Ev.bind (same_self_f _ (by omega)) ?_
      simp only [if_true]
      rw [wrap_in (by omega) (by omega)]
      simp only [if_true]
      refine Ev.bind (end_ref_f l hk i en hi hiE) ?_
      apply Ev.succ
      by_cases n3 : j < 0
      · simp only [semblancelaw10_ShapeTells.j1, bne_self_eq_false, Bool.false_eq_true, if_false, n3, if_true]
        apply Ev.succ
        simp only [semblancelaw10_ShapeTells.j2, if_true]
        exact Ev.bind awake_true (Ev.now _)
      · have n4 : j ≥ (l.length : Int) := by omega
        simp only [semblancelaw10_ShapeTells.j1, bne_self_eq_false, Bool.false_eq_true, if_false, n3, n4, decide_true]
        apply Ev.succ
        simp only [semblancelaw10_ShapeTells.j2, if_true]
        exact Ev.bind awake_true (Ev.now _)
  · have hn := none_right l i j c hd hno
    simp only [(hn _).1, (hn _).2.1, (hn _).2.2.1, (hn _).2.2.2.1, (hn _).2.2.2.2, Option.bind_some]
    refine Ev.bind hc ?_
    have fin : Ev (fun k => semblancelaw10_ShapeTells.j0 k l i j [] [] 0 0 (-1) true) true := by
      apply Ev.succ
      simp only [semblancelaw10_ShapeTells.j0, if_true, List.length_nil, Int.ofNat_zero, Int.natCast_zero]
      exact Ev.bind awake_true (Ev.now _)
    by_cases h0 : c = 0
    · by_cases h1 : i < 0
      · simp only [h0, h1, if_true]; exact fin
      · have h2 : i ≥ (l.length : Int) := by omega
        simp only [h0, h1, h2, if_true, if_false, decide_true]; exact fin
    · simp only [h0, if_false]; exact fin

end Go.Proofs.Ytbiegkifpkeaoaa.Pure
