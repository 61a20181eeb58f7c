/-
  Charts that are the same, and whose states' names are unlike, differ in nothing, for all charts.
  Conditions: none but the given statement's own.
-/
import Derived.Test.YtjlegibfeenglaaXEldiff
import Derived.Test.YtjlegibfeenglaaXEldifftot
import Derived.Test.YtjlegibfeenglaaXEo
import Derived.Test.YtjlegibfeenglaaXEp10
import Derived.Test.YtjlegibfeenglaaXEp12
import Derived.Test.YtjlegibfeenglaaXEp15
import Derived.Test.YtjlegibfeenglaaXEp16
import Derived.Test.YtjlegibfeenglaaXEp6
import Derived.Test.YtjlegibfeenglaaXEp7
import Derived.Test.YtjlegibfeenglaaXFind
import Derived.Test.YtjlegibfeenglaaXFuel
namespace Go.Proofs.Ytjlegibfeenglaa.Pure
open Go.RowKit Go.Proofs.Ytjlegibfeenglaa.XRead Go.Proofs.Ytjlegibfeenglaa.XE Go.Proofs.YtjlegibfeenglaaW.PrintWords Go.Proofs.YtjlegibfeenglaaW.PrintLast Go.Proofs.YtjlegibfeenglaaW.PrintMore
open Go.Proofs.Ytjlegibfeenglaa.XFuel Go.Proofs.Ytjlegibfeenglaa.XFind
set_option linter.unusedVariables false
set_option linter.unusedSimpArgs false
def unlikeB (l : List (S99)) (n : Nat) : Bool := (List.range n).all fun j => !decide ((l.getD j z99).f0.toList = (l.getD n z99).f0.toList)
theorem item4_f (a0 : ByteArray) (a1 : List ByteArray) (a2 : List (S95)) (a3 : List (S99)) (h3 : a3.length ≤ 9223372036854775807) (n : Nat) (hn : n < a3.length) :
    Ev (fun k => semblanceref14_item.f k a0 a1 a2 a3 4 (n : Int)) (unlikeB a3 n) := by
  have e1 : ¬ ((4 : Int) = 1) := by decide
  have e2 : ¬ ((4 : Int) = 2) := by decide
  have e3 : ¬ ((4 : Int) = 3) := by decide
  simp only [semblanceref14_item.f, e1, e2, e3, if_false, if_true]
  refine ev_all0 (L := fun k j => semblanceref14_item.l2 k (n : Int) j a0 a1 a2 a3) _ n ?_ ?_
  · apply Ev.succ
    simp only [semblanceref14_item.l2, Int.lt_irrefl, if_false]
    exact Ev.now _
  · intro j hj c hc
    have g1 : (j : Int) < (n : Int) := by omega
    have g2 : (0 : Int) ≤ (j : Int) := by omega
    have g3 : (j : Int) < (a3.length : Int) := by omega
    have g4 : (0 : Int) ≤ (n : Int) := by omega
    have g5 : (n : Int) < (a3.length : Int) := by omega
    have r0 : rd_T99 a3 (j : Int) = a3.getD j z99 := by unfold rd_T99; rw [Int.toNat_natCast]
    have r1 : rd_T99 a3 (n : Int) = a3.getD n z99 := by unfold rd_T99; rw [Int.toNat_natCast]
    apply Ev.succ
    simp only [semblanceref14_item.l2, g1, g2, g3, g4, g5, if_true, r0, r1]
    by_cases q : (a3.getD j z99).f0.toList = (a3.getD n z99).f0.toList
    · simp only [q, if_true, decide_true, Bool.not_true, Bool.false_and]
      exact Ev.now _
    · simp only [q, if_false, decide_false, Bool.not_false, Bool.true_and]
      rw [wrap_succ (by omega)]
      exact hc
def row4 (l : List (S99)) (n : Nat) : List (S112) := if unlikeB l n = true then [] else [⟨4, (n : Int), 0⟩]
theorem broken4_f (a0 : ByteArray) (a1 : List ByteArray) (a2 : List (S95)) (a3 : List (S99)) (h3 : a3.length * 104 ≤ 140737488351232) :
    Ev (fun k => semblanceref14_Broken.f k a0 a1 a2 a3 4) ((List.range a3.length).flatMap (row4 a3)) := by
  have e1 : ¬ ((4 : Int) = 1) := by decide
  have e2 : ¬ ((4 : Int) = 2) := by decide
  have e3 : ((4 : Int) == 3) = false := by decide
  have e5 : (4 : Int) ≤ 5 := by decide
  have hone : ∀ n, (row4 a3 n).length ≤ 1 := by
    intro n
    unfold row4
    split
    · exact Nat.zero_le _
    · exact Nat.le_refl _
  simp only [semblanceref14_Broken.f, Option.bind_some, e1, if_false]
  apply Ev.succ
  simp only [semblanceref14_Broken.j0, e2, e3, if_false]
  apply Ev.succ
  simp only [semblanceref14_Broken.j1, Bool.false_eq_true, if_false]
  apply Ev.succ
  simp only [semblanceref14_Broken.j2]
  have := ev_rows0 (L := fun k out n => semblanceref14_Broken.l0 k 4 out (a3.length : Int) n a0 a1 a2 a3) (row4 a3) a3.length 5864062014805 hone ?_ ((List.range a3.length).flatMap (row4 a3)) [] (by simp only [List.length_nil]; omega) ?_
  · exact this
  · intro n hn out ho r h
    have g1 : (n : Int) < (a3.length : Int) := by omega
    apply Ev.succ
    simp only [semblanceref14_Broken.l0, g1, e5, if_true]
    refine Ev.bind (item4_f a0 a1 a2 a3 (by omega) n hn) ?_
    unfold row4 at h
    by_cases q : unlikeB a3 n = true
    · simp only [q, if_true, List.append_nil] at h
      simp only [q, if_true]
      rw [wrap_succ (by omega)]
      exact h
    · simp only [q, if_false] at h
      simp only [q, ho, if_true, if_false]
      rw [wrap_succ (by omega)]
      exact h
  · apply Ev.succ
    simp only [semblanceref14_Broken.l0, Int.lt_irrefl, if_false, List.nil_append]
    exact Ev.now _
def sameSt (x y : S99) : Bool := decide (x.f0.toList = y.f0.toList) && (decide (x.f1 = y.f1) && (decide (x.f2 = y.f2) && (eqAs x.f3 y.f3 && (eqAs x.f4 y.f4 && eqTrs x.f5 y.f5))))
def sameSts (a b : List (S99)) : Bool := decide (a.length = b.length) && (List.range a.length).all fun j => sameSt (a.getD j z99) (b.getD j z99)
theorem states_f (a b : List (S99)) (ha : a.length ≤ 9223372036854775807) (hF : ∀ x ∈ a, F99 x) : Ev (fun k => semblanceref11_States.f k a b) (sameSts a b) := by
  unfold sameSts
  by_cases he : a.length = b.length
  · have he' : (a.length : Int) = (b.length : Int) := by omega
    simp only [semblanceref11_States.f, if_pos he', decide_eq_true he, Bool.true_and]
    refine ev_all0 (L := fun k n => semblanceref11_States.l0 k a b n) _ a.length ?_ ?_
    · apply Ev.succ
      simp only [semblanceref11_States.l0, Int.lt_irrefl, if_false]
      exact Ev.now _
    · intro n hn c hc
      have h1 : (n : Int) < (a.length : Int) := by omega
      have h2 : (0 : Int) ≤ (n : Int) := by omega
      have h3 : (n : Int) < (b.length : Int) := by omega
      have hx := getF hF hn
      have r0 : rd_T99 a (n : Int) = a.getD n z99 := by unfold rd_T99; rw [Int.toNat_natCast]
      have r1 : rd_T99 b (n : Int) = b.getD n z99 := by unfold rd_T99; rw [Int.toNat_natCast]
      apply Ev.succ
      simp only [semblanceref11_States.l0, h1, h2, h3, if_true, r0, r1]
      clear r0 r1
      generalize a.getD n z99 = x at *
      generalize b.getD n z99 = y at *
      have m3 := acts_f x.f3 y.f3 (by have := hx.2.2.2.1.1; omega) hx.2.2.2.1.2
      have m4 := acts_f x.f4 y.f4 (by have := hx.2.2.2.2.1.1; omega) hx.2.2.2.2.1.2
      have m5 := all_f x.f5 y.f5 (by have := hx.2.2.2.2.2.1; omega) hx.2.2.2.2.2.2
      unfold sameSt
      by_cases q0 : x.f0.toList = y.f0.toList
      · by_cases q1 : x.f1 = y.f1
        · by_cases q2 : x.f2 = y.f2
          · simp only [q0, q1, q2, if_true, decide_true, Bool.true_and]
            refine Ev.bind m3 ?_
            cases q3 : eqAs x.f3 y.f3 with
            | false =>
              simp only [Bool.false_eq_true, if_false, Bool.false_and]
              exact Ev.now _
            | true =>
              simp only [if_true, Bool.true_and]
              refine Ev.bind m4 ?_
              cases q4 : eqAs x.f4 y.f4 with
              | false =>
                simp only [Bool.false_eq_true, if_false, Bool.false_and]
                exact Ev.now _
              | true =>
                simp only [if_true, Bool.true_and]
                refine Ev.bind m5 ?_
                cases q5 : eqTrs x.f5 y.f5 with
                | false =>
                  simp only [Bool.false_eq_true, if_false, Bool.false_and]
                  exact Ev.now _
                | true =>
                  simp only [if_true, Bool.true_and]
                  rw [wrap_succ (by omega)]
                  exact hc
          · simp only [q0, q1, q2, if_true, if_false, decide_true, decide_false, Bool.true_and, Bool.false_and]
            exact Ev.now _
        · simp only [q0, q1, if_true, if_false, decide_true, decide_false, Bool.true_and, Bool.false_and]
          exact Ev.now _
      · simp only [q0, if_false, decide_false, Bool.false_and]
        exact Ev.now _
  · have he' : ¬ ((a.length : Int) = (b.length : Int)) := by omega
    simp only [semblanceref11_States.f, if_neg he', decide_eq_false he, Bool.false_and]
    exact Ev.now _
def sameB (a0 : ByteArray) (a1 : List ByteArray) (a2 : List (S95)) (a3 : List (S99)) (b0 : ByteArray) (b1 : List ByteArray) (b2 : List (S95)) (b3 : List (S99)) : Bool :=
  decide (a0.toList = b0.toList) && (eqS a1 b1 && (eqVs a2 b2 && sameSts a3 b3))
theorem same11_f (a0 : ByteArray) (a1 : List ByteArray) (a2 : List (S95)) (a3 : List (S99)) (b0 : ByteArray) (b1 : List ByteArray) (b2 : List (S95)) (b3 : List (S99))
    (h1 : a1.length ≤ 9223372036854775807) (h2 : a2.length ≤ 9223372036854775807) (h3 : a3.length ≤ 9223372036854775807) (hF : ∀ x ∈ a3, F99 x) :
    Ev (fun k => semblanceref11_Same.f k a0 a1 a2 a3 b0 b1 b2 b3) (sameB a0 a1 a2 a3 b0 b1 b2 b3) := by
  have hno : Ev (fun k => semblanceref11_Same.j0 k true a0 a1 a2 a3 b0 b1 b2 b3) false := by
    apply Ev.succ
    simp only [semblanceref11_Same.j0, if_true]
    exact Ev.now _
  unfold sameB
  by_cases q0 : a0.toList = b0.toList
  · simp only [semblanceref11_Same.f, q0, if_true, decide_true, Bool.true_and]
    refine Ev.bind (texts_f a1 b1 h1) ?_
    cases q1 : eqS a1 b1 with
    | false =>
      simp only [Bool.false_eq_true, if_false, Bool.false_and]
      exact hno
    | true =>
      simp only [if_true, Bool.true_and]
      unfold eqVs
      by_cases he : a2.length = b2.length
      · have he' : ((a2.length : Int) != (b2.length : Int)) = false := by rw [he]; simp
        rw [decide_eq_true he, Bool.true_and]
        simp only [he']
        apply Ev.succ
        simp only [semblanceref11_Same.j0, Bool.false_eq_true, if_false]
        have hgo : ∀ d n, a2.length - n = d → n ≤ a2.length → Ev (fun k => semblanceref11_Same.l0 k (n : Int) a0 a1 a2 a3 b0 b1 b2 b3) ((((List.range a2.length).drop n).all fun j => eqV (a2.getD j z95) (b2.getD j z95)) && sameSts a3 b3) := by
          intro d
          induction d with
          | zero =>
            intro n hd hn
            obtain rfl : n = a2.length := by omega
            rw [List.drop_of_length_le (by simp)]
            apply Ev.succ
            simp only [semblanceref11_Same.l0, Int.lt_irrefl, if_false, List.all_nil, Bool.true_and]
            exact Ev.bind (states_f a3 b3 h3 hF) (Ev.now _)
          | succ d ih =>
            intro n hd hn
            have g1 : (n : Int) < (a2.length : Int) := by omega
            have g2 : (0 : Int) ≤ (n : Int) := by omega
            have g3 : (n : Int) < (b2.length : Int) := by omega
            have r0 : rd_T95 a2 (n : Int) = a2.getD n z95 := by unfold rd_T95; rw [Int.toNat_natCast]
            have r1 : rd_T95 b2 (n : Int) = b2.getD n z95 := by unfold rd_T95; rw [Int.toNat_natCast]
            have hn1 := ih (n + 1) (by omega) (by omega)
            rw [drop_all _ _ _ (by omega)]
            apply Ev.succ
            simp only [semblanceref11_Same.l0, g1, g2, g3, if_true, r0, r1]
            clear r0 r1
            generalize a2.getD n z95 = x
            generalize b2.getD n z95 = y
            have hq : (!(x.f0.toList == y.f0.toList) || (!(x.f1 == y.f1) || (!(x.f2 == y.f2) || (!(x.f3 == y.f3))))) = !(eqV x y) := by unfold eqV; rw [Bool.not_and, Bool.not_and, Bool.not_and]
            cases q : eqV x y with
            | true =>
              simp only [hq, q, Bool.not_true, Bool.false_eq_true, if_false, Bool.true_and]
              rw [wrap_succ (by omega)]
              exact hn1
            | false =>
              simp only [hq, q, Bool.not_false, if_true, Bool.false_and]
              exact Ev.now _
        have := hgo a2.length 0 (by omega) (by omega)
        rw [List.drop_zero] at this
        exact this
      · have he' : ((a2.length : Int) != (b2.length : Int)) = true := by rw [bne_iff_ne]; omega
        rw [decide_eq_false he, Bool.false_and, Bool.false_and]
        simp only [he']
        exact hno
  · simp only [semblanceref11_Same.f, q0, if_false, decide_false, Bool.false_and]
    exact hno
theorem find_unlike (l : List (S99)) (s : ByteArray) (n : Nat) (hn : n < l.length) (hs : (l.getD n z99).f0.toList = s.toList) (h : unlikeB l n = true) : diff_find.i l s = n := by
  unfold diff_find.i
  refine idxF_hit (diff_find.p s) l z99 n hn (decide_eq_true hs) (fun j hj => ?_)
  unfold unlikeB at h
  rw [List.all_eq_true] at h
  have := h j (List.mem_range.2 hj)
  rw [hs] at this
  unfold diff_find.p
  simpa using this
theorem flat_nil {β : Type} (row : Nat → List β) (len : Nat) (h : ∀ n, n < len → row n = []) : (List.range len).flatMap row = [] := by
  rw [List.flatMap_eq_nil_iff]
  exact fun n hn => h n (List.mem_range.1 hn)
theorem lines_same (a0 : ByteArray) (a1 : List ByteArray) (a2 : List (S95)) (a3 : List (S99)) (b0 : ByteArray) (b1 : List ByteArray) (b2 : List (S95)) (b3 : List (S99))
    (hun : ∀ n, n < a3.length → unlikeB a3 n = true) (h : sameB a0 a1 a2 a3 b0 b1 b2 b3 = true) : linesB a0 a1 a2 a3 b0 b1 b2 b3 = [] := by
  unfold sameB sameSts at h
  simp only [Bool.and_eq_true, decide_eq_true_eq, List.all_eq_true] at h
  obtain ⟨e0, e1, e2, hl, hs⟩ := h
  have hst : ∀ n, n < a3.length → sameSt (a3.getD n z99) (b3.getD n z99) = true := fun n hn => hs n (List.mem_range.2 hn)
  clear hs
  have hname : ∀ n, n < a3.length → (a3.getD n z99).f0.toList = (b3.getD n z99).f0.toList := by
    intro n hn
    have := hst n hn
    unfold sameSt at this
    simp only [Bool.and_eq_true, decide_eq_true_eq] at this
    exact this.1
  have hunb : ∀ n, n < b3.length → unlikeB b3 n = true := by
    intro n hn
    have hn' : n < a3.length := by omega
    have := hun n hn'
    unfold unlikeB at this ⊢
    rw [List.all_eq_true] at this ⊢
    intro j hj
    have hj' := List.mem_range.1 hj
    have := this j hj
    rw [hname j (by omega), hname n hn'] at this
    exact this
  have habove : ∀ p : Int, (aboveB a3 p).toList = (aboveB b3 p).toList := by
    intro p
    unfold aboveB
    by_cases h0 : p < 0
    · simp only [h0, if_true]
    · by_cases h1 : p ≥ (a3.length : Int)
      · have h1' : p ≥ (b3.length : Int) := by omega
        simp only [h0, h1, h1', if_true, if_false]
      · have h1' : ¬ (p ≥ (b3.length : Int)) := by omega
        simp only [h0, h1, h1', if_false]
        unfold rd_T99
        exact hname p.toNat (by omega)
  unfold linesB headsB
  have hr1 : (List.range a3.length).flatMap (row1 a3 b3) = [] := by
    refine flat_nil _ _ (fun n hn => ?_)
    unfold row1
    have hi : diff_find.i b3 (a3.getD n z99).f0 = n := find_unlike b3 _ n (by omega) (hname n hn).symm (hunb n (by omega))
    have hx := hst n hn
    rw [hi, Int.toNat_natCast]
    have hn0 : ¬ ((n : Int) < 0) := by omega
    unfold sameSt at hx
    simp only [Bool.and_eq_true, decide_eq_true_eq] at hx
    obtain ⟨_, x1, x2, x3, x4, x5⟩ := hx
    have hal : alikeB a3 b3 (a3.getD n z99) (b3.getD n z99) = true := by
      unfold alikeB
      simp only [Bool.and_eq_true, decide_eq_true_eq]
      exact ⟨x1, by rw [x2]; exact habove _, x3, x4, x5⟩
    simp only [hn0, hal, if_true, if_false]
  have hr2 : (List.range b3.length).flatMap (row2 a3 b3) = [] := by
    refine flat_nil _ _ (fun n hn => ?_)
    unfold row2
    have hi : diff_find.i a3 (b3.getD n z99).f0 = n := find_unlike a3 _ n (by omega) (hname n (by omega)) (hun n (by omega))
    have hn0 : ¬ ((n : Int) < 0) := by omega
    rw [hi, if_neg hn0]
  rw [hr1, hr2, e1, e2]
  simp [e0]
theorem eqTs_self (a : List (S117)) : trans_Same.eqTs a a = true := by unfold trans_Same.eqTs trans_Same.eqT; simp
theorem eqAs_self (a : List (S130)) : eqAs a a = true := by unfold eqAs EqualFunc_Act.val trans_Same.eqA; simp [eqTs_self]
theorem eqTrs_self (a : List (S102)) : eqTrs a a = true := by
  unfold eqTrs EqualFunc_Trans.val eqTr trans_Same.eq
  have : ∀ l, EqualFunc_Act.val trans_Same.eqA l l = true := eqAs_self
  simp [eqTs_self, this]
theorem same_refl (a0 : ByteArray) (a1 : List ByteArray) (a2 : List (S95)) (a3 : List (S99)) : sameB a0 a1 a2 a3 a0 a1 a2 a3 = true := by
  unfold sameB sameSts sameSt eqVs eqV
  simp [eqS_self, eqAs_self, eqTrs_self]
theorem DiffNothing : ∀ (a0_0 : ByteArray) (l0_1 : List ByteArray) (l0_2 : List (S95)) (l0_3 : List (S99)) (a1_0 : ByteArray) (l1_1 : List ByteArray) (l1_2 : List (S95)) (l1_3 : List (S99)), (F59 (⟨a0_0, l0_1, l0_2, l0_3⟩ : S59)) → (F59 (⟨a1_0, l1_1, l1_2, l1_3⟩ : S59)) → ∃ k, semblancelaw53_DiffNothing.f k a0_0 l0_1 l0_2 l0_3 a1_0 l1_1 l1_2 l1_3 = some true := by
  intro a0 a1 a2 a3 b0 b1 b2 b3 hA hB
  have hA' : F59 ⟨a0, a1, a2, a3⟩ := hA
  have hB' : F59 ⟨b0, b1, b2, b3⟩ := hB
  obtain ⟨_, ⟨p1, _⟩, ⟨p2, _⟩, p3, pF⟩ := hA'
  obtain ⟨_, ⟨q1, _⟩, ⟨q2, _⟩, q3, qF⟩ := hB'
  simp only at p1 p2 p3 pF q1 q2 q3 qF
  have hj : Ev (fun k => semblancelaw53_DiffNothing.j0 k true a0 a1 a2 a3 b0 b1 b2 b3) true := by
    apply Ev.succ
    simp only [semblancelaw53_DiffNothing.j0, if_true]
    exact Ev.bind awake53 (Ev.now _)
  suffices hev : Ev (fun k => semblancelaw53_DiffNothing.f k a0 a1 a2 a3 b0 b1 b2 b3) true by
    obtain ⟨K, hK⟩ := hev
    exact ⟨K, hK K (Nat.le_refl _)⟩
  obtain ⟨la, hla⟩ := light_tot a0 a1 a2 a3 (by omega) (by omega) (by omega) pF
  obtain ⟨lb, hlb⟩ := light_tot b0 b1 b2 b3 (by omega) (by omega) (by omega) qF
  unfold semblancelaw53_DiffNothing.f
  refine Ev.bind hla ?_
  cases la with
  | false =>
    simp only [Bool.false_eq_true, if_false]
    exact hj
  | true =>
    simp only [if_true]
    refine Ev.bind hlb ?_
    cases lb with
    | false =>
      simp only [Bool.false_eq_true, if_false]
      exact hj
    | true =>
      simp only [if_true]
      refine Ev.bind (broken4_f a0 a1 a2 a3 p3) ?_
      by_cases hbr : (List.range a3.length).flatMap (row4 a3) = []
      · have hun : ∀ n, n < a3.length → unlikeB a3 n = true := by
          intro n hn
          rw [List.flatMap_eq_nil_iff] at hbr
          have := hbr n (List.mem_range.2 hn)
          unfold row4 at this
          by_cases q : unlikeB a3 n = true
          · exact q
          · rw [if_neg q] at this
            cases this
        have hd : decide (((((List.range a3.length).flatMap (row4 a3)).length : Nat) : Int) > 0) = false := by rw [hbr]; decide
        simp only [hd]
        apply Ev.succ
        simp only [semblancelaw53_DiffNothing.j0, Bool.false_eq_true, if_false]
        have haa := dsame_f a0 a1 a2 a3 a0 a1 a2 a3 (by omega) (by omega) p3 p3 pF pF
        rw [lines_same a0 a1 a2 a3 a0 a1 a2 a3 hun (same_refl a0 a1 a2 a3)] at haa
        refine Ev.bind haa ?_
        have ht : ((([] : List ByteArray).length : Int) == 0) = true := by decide
        simp only [ht, if_true]
        refine Ev.bind (same11_f a0 a1 a2 a3 b0 b1 b2 b3 (by omega) (by omega) (by omega) pF) ?_
        cases hsm : sameB a0 a1 a2 a3 b0 b1 b2 b3 with
        | false =>
          simp only [Bool.false_eq_true, if_false]
          exact Ev.bind awake53 (Ev.now _)
        | true =>
          simp only [if_true]
          have hab := dsame_f a0 a1 a2 a3 b0 b1 b2 b3 (by omega) (by omega) p3 q3 pF qF
          rw [lines_same a0 a1 a2 a3 b0 b1 b2 b3 hun hsm] at hab
          refine Ev.bind hab ?_
          simp only [ht, if_true]
          exact Ev.bind awake53 (Ev.now _)
      · have hd : decide (((((List.range a3.length).flatMap (row4 a3)).length : Nat) : Int) > 0) = true := by
          have := List.length_pos_iff.2 hbr
          exact decide_eq_true (by omega)
        simp only [hd]
        exact hj

end Go.Proofs.Ytjlegibfeenglaa.Pure
