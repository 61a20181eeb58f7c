/- Whatever two expressions and whatever Env: the theorem of logic holds of what the program says. No condition. -/
import Derived.Test.YtoeioigpkfgppaaXFind
import Derived.Test.YtoeioigpkfgppaaXFuel
import Derived.Test.YtoeioigpkfgppaaXTermPlain
import Derived.Test.YtoeioigpkfgppaaXVleval4
import Derived.Test.YtoeioigpkfgppaaXVo
import Derived.Test.YtoeioigpkfgppaaXVp10
import Derived.Test.YtoeioigpkfgppaaXVp6
namespace Go.Proofs.Ytoeioigpkfgppaa.Pure
open Go.RowKit Go.Proofs.Ytoeioigpkfgppaa.XRead Go.Proofs.Ytoeioigpkfgppaa.XV Go.Proofs.YtoeioigpkfgppaaW.PrintWords Go.Proofs.YtoeioigpkfgppaaW.PrintLast Go.Proofs.YtoeioigpkfgppaaW.PrintMore
open Go.Proofs.Ytoeioigpkfgppaa.XFuel Go.Proofs.Ytoeioigpkfgppaa.TermPlain
set_option linter.unusedVariables false
set_option linter.unusedSimpArgs false
theorem MKt_is (op : Int) (vs : List Int) : MKt op vs = 0 ∨ MKt op vs = 1 ∨ MKt op vs = 2 := by rw [MKt_def]; split <;> (try split) <;> simp
theorem laws_main (e : EnvT) (a b : List (S47)) : Ev (fun k => semblancelaw07_EvalLaws.f k a b e.vs e.c1 e.c2 e.c3 e.c4 e.ins) true := by
  have awake : Ev (fun k => (semblancelaw07_awake.f k).bind fun t => some t) true := Ev.bind awake07_ev (Ev.now _)
  have j0t : Ev (fun k => semblancelaw07_EvalLaws.j0 k a b true e.vs e.c1 e.c2 e.c3 e.c4 e.ins) true := by
    apply Ev.succ
    simp only [semblancelaw07_EvalLaws.j0, if_true]
    exact awake
  obtain ⟨p, hp, hpv⟩ := light07_ev e a
  obtain ⟨q, hq, hqv⟩ := light07_ev e b
  simp only [semblancelaw07_EvalLaws.f]
  refine Ev.bind hp ?_
  cases p with
  | false => simp only [Bool.false_eq_true, if_false]; exact j0t
  | true =>
    simp only [if_true]
    refine Ev.bind hq ?_
    cases q with
    | false => simp only [Bool.false_eq_true, if_false]; exact j0t
    | true =>
      obtain ⟨hla, hi⟩ := hpv rfl
      obtain ⟨hlb, _⟩ := hqv rfl
      simp only [if_true]
      refine Ev.bind (check7_ref e a) ?_
      by_cases ca : chk7 e a = 0
      · simp only [ca, if_true]
        refine Ev.bind (check7_ref e b) ?_
        by_cases cb : chk7 e b = 0
        · have hw : wrap64 ((a.length : Int) + (b.length : Int)) = ((a.length + b.length : Nat) : Int) := by rw [wrap_in (by omega) (by omega)]; omega
          simp only [cb, if_true, hw]
          by_cases hl : ((a.length + b.length : Nat) : Int) > 36
          · simp only [hl, if_true]; exact j0t
          · simp only [hl, if_false]
            obtain ⟨Ha, hTa, _⟩ := chk7_zero hi ca
            obtain ⟨Hb, hTb, _⟩ := chk7_zero hi cb
            have ha0 := (E_lt Ha.whole).1
            have hb0 := (E_lt Hb.whole).1
            refine Ev.bind (depth_ref a Ha.len Ha.whole _ 0 (Nat.le_refl _) ha0) ?_
            by_cases da : vI a MKd 0 > 9
            · simp only [da, if_true]; exact j0t
            · simp only [da, if_false]
              refine Ev.bind (depth_ref b Hb.len Hb.whole _ 0 (Nat.le_refl _) hb0) ?_
              by_cases db : vI b MKd 0 > 9
              · simp only [db, decide_true]; exact j0t
              · simp only [db, decide_false]
                have ga := GE.of hi ca (by omega)
                have gb := GE.of hi cb (by omega)
                have hbx := bool_val Ha ha0
                have hby := bool_val Hb hb0
                apply Ev.succ
                simp only [semblancelaw07_EvalLaws.j0, Bool.false_eq_true, if_false]
                refine Ev.bind (type_ref a Ha.len Ha.whole _ 0 (Nat.le_refl _) ha0) (Ev.bind (type_ref b Hb.len Hb.whole _ 0 (Nat.le_refl _) hb0) ?_)
                have hkinds : vI b MKt 0 = 0 ∨ vI b MKt 0 = 1 ∨ vI b MKt 0 = 2 := by
                  have : vI b MKt 0 = MKt (opOf b 0) ((bl (aOf b) b.length 0).map (vI b MKt)) := TermPlain.val_eq hb0
                  rw [this]; exact MKt_is _ _
                generalize vI b MKt 0 = tb at *
                generalize vI a MKt 0 = ta at *
                generalize vA e a 0 = x at *
                generalize vA e b 0 = y at *
                by_cases ht : ta = tb
                · subst ht
                  simp only [if_true]
                  by_cases h1 : ta = 1
                  · subst h1
                    simp only [if_true]
                    have e15 : hld e ([15].map tm0 ++ a ++ b) = decide (TA e 15 0 ⟨#[]⟩ x y = 1) := (GE.bin ga gb (op := 15) (.inl rfl) (by decide) (by omega) (by omega)).hld Ha.vs (by omega)
                    have e18 : hld e ([18].map tm0 ++ a ++ b) = decide (TA e 18 0 ⟨#[]⟩ x y = 1) := (GE.bin ga gb (op := 18) (.inr (.inl rfl)) (by decide) (by omega) (by omega)).hld Ha.vs (by omega)
                    refine Ev.bind (holds_ev e [15] a b (by decide) (by omega) (by omega) hi) (Ev.bind (holds_ev e [18] a b (by decide) (by omega) (by omega) hi) ?_)
                    have hne : (hld e ([15].map tm0 ++ a ++ b) != hld e ([18].map tm0 ++ a ++ b)) = true := by
                      rw [e15, e18]
                      simp only [TA, Int.reduceEq, if_true, if_false]
                      by_cases hxy : x < y
                      · rw [decide_eq_true hxy, decide_eq_false (by omega : ¬ x ≥ y)]; decide
                      · rw [decide_eq_false hxy, decide_eq_true (by omega : x ≥ y)]; decide
                    simp only [hne, if_true]
                    exact awake
                  · have h2 : ta = 2 := by omega
                    subst h2
                    have hx := hbx rfl
                    have hy := hby rfl
                    have gand := (GE.bin ga gb (op := 19) (.inr (.inr (.inl rfl))) (by decide) (by omega) (by omega)).un (by omega) (by simp; omega)
                    have gor := GE.bin (ga.un (by omega) (by omega)) (gb.un (by omega) (by omega)) (op := 20) (.inr (.inr (.inr rfl))) (by decide) (by omega) (by simp; omega)
                    have gnn := (ga.un (by omega) (by omega)).un (by omega) (by simp; omega)
                    have eand : hld e ([12, 19].map tm0 ++ a ++ b) = decide (b01 (TA e 19 0 ⟨#[]⟩ x y == 0) = 1) := gand.hld Ha.vs (by omega)
                    have eor : hld e ([20].map tm0 ++ (tm0 12 :: a) ++ (tm0 12 :: b)) = decide (TA e 20 0 ⟨#[]⟩ (b01 (x == 0)) (b01 (y == 0)) = 1) := gor.hld Ha.vs (by omega)
                    have enn : hld e ([12, 12].map tm0 ++ a ++ []) = decide (b01 (b01 (x == 0) == 0) = 1) := by
                      rw [List.append_nil]; exact gnn.hld Ha.vs (by omega)
                    have ea : hld e a = decide (x = 1) := ga.hld Ha.vs (by omega)
                    simp only [show ¬ ((2 : Int) = 1) by decide, if_false, Option.bind_some, List.nil_append, List.cons_append, List.length_cons, List.length_nil, Nat.zero_add, show (1 : Nat) < 4398046511104 by decide, show 1 + a.length < 4398046511104 by omega, show 1 + b.length < 4398046511104 by omega, if_true]
                    refine Ev.bind (holds_ev e [12, 19] a b (by decide) (by omega) (by omega) hi) (Ev.bind (holds_ev e [20] (tm0 12 :: a) (tm0 12 :: b) (by decide) (by simp; omega) (by simp; omega) hi) ?_)
                    have hq1 : (hld e ([12, 19].map tm0 ++ a ++ b) == hld e ([20].map tm0 ++ (tm0 12 :: a) ++ (tm0 12 :: b))) = true := by
                      rw [eand, eor]
                      simp only [TA, Int.reduceEq, if_true, if_false]
                      rcases hx with rfl | rfl <;> rcases hy with rfl | rfl <;> decide
                    simp only [hq1, if_true]
                    refine Ev.bind (holds_ev e [12, 12] a [] (by decide) (by omega) (by simp) hi) (Ev.bind (holds_prog e a hi) ?_)
                    have hq2 : (hld e ([12, 12].map tm0 ++ a ++ []) == hld e a) = true := by
                      rw [enn, ea]
                      rcases hx with rfl | rfl <;> decide
                    simp only [hq2, if_true]
                    exact awake
                · simp only [ht, if_false]; exact awake
        · simp only [cb, if_false]; exact j0t
      · simp only [ca, if_false]; exact j0t
theorem EvalLaws : ∀ (l0 : List (S47)) (l1 : List (S47)) (l2_0 : List (S51)) (a2_1 : Int) (a2_2 : Int) (a2_3 : Int) (a2_4 : Int) (l2_5 : List ByteArray), (l0.length * 32 ≤ 140737488351232 ∧ ∀ y ∈ l0, F47 y) → (l1.length * 32 ≤ 140737488351232 ∧ ∀ y ∈ l1, F47 y) → (F36 (⟨l2_0, (⟨a2_1, a2_2, a2_3, a2_4⟩ : S34), l2_5⟩ : S36)) → ∃ k, semblancelaw07_EvalLaws.f k l0 l1 l2_0 a2_1 a2_2 a2_3 a2_4 l2_5 = some true := fun a b vs c1 c2 c3 c4 ins _ _ _ => (laws_main ⟨vs, c1, c2, c3, c4, ins⟩ a b).rounds

end Go.Proofs.Ytoeioigpkfgppaa.Pure
