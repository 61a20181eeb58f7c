import Derived.Test.YtoeioigpkfgppaaXBytes
import Derived.Test.YtoeioigpkfgppaaXFind
import Derived.Test.YtoeioigpkfgppaaXFuel
import Derived.Test.YtoeioigpkfgppaaXNamesPlain
import Derived.Test.YtoeioigpkfgppaaXRlrules3
import Derived.Test.YtoeioigpkfgppaaXRo
import Derived.Test.YtoeioigpkfgppaaXRp10
import Derived.Test.YtoeioigpkfgppaaXRp12
import Derived.Test.YtoeioigpkfgppaaXRp13
import Derived.Test.YtoeioigpkfgppaaXRp14
import Derived.Test.YtoeioigpkfgppaaXRp3
import Derived.Test.YtoeioigpkfgppaaXRp7
import Derived.Test.YtoeioigpkfgppaaXRp8
import Derived.Test.YtoeioigpkfgppaaXRp9
namespace Go.Proofs.Ytoeioigpkfgppaa.XR
open Go.RowKit Go.Proofs.Ytoeioigpkfgppaa.XRead Go.Proofs.Ytoeioigpkfgppaa.XR Go.Proofs.YtoeioigpkfgppaaW.PrintWords Go.Proofs.YtoeioigpkfgppaaW.PrintLast Go.Proofs.YtoeioigpkfgppaaW.PrintMore
open Go.Proofs.Ytoeioigpkfgppaa.XFuel Go.Proofs.Ytoeioigpkfgppaa.XFind Go.Proofs.Ytoeioigpkfgppaa.XNamesPlain Go.Proofs.Ytoeioigpkfgppaa.XBytes Go.Proofs.Ytoeioigpkfgppaa.TermPlain
set_option linter.unusedVariables false
set_option linter.unusedSimpArgs false
/-! ### both sides, place by place -/
theorem names_ev (l : List (S47)) (kind : Int) (hl : l.length ≤ 100) : Ev (fun k => term_Names.f k l kind) ((l.filter fun x => decide (x.f0 = kind)).map fun x => x.f2) := by
  have key : ∀ (d n : Nat) (acc : List ByteArray), l.length - n = d → n ≤ l.length → acc.length ≤ n → Ev (fun k => term_Names.l0 k kind acc l l.length n) (acc ++ ((l.drop n).filter fun x => decide (x.f0 = kind)).map fun x => x.f2) := by
    intro d
    induction d with
    | zero =>
      intro n acc hd hn ha
      have h1 : ¬ ((n : Int) < (l.length : Int)) := by omega
      apply Ev.succ
      rw [List.drop_of_length_le (by omega), List.filter_nil, List.map_nil, List.append_nil]
      simp only [term_Names.l0, h1, if_false]
      exact Ev.now _
    | succ d ih =>
      intro n acc hd hn ha
      have h1 : (n : Int) < (l.length : Int) := by omega
      have h2 : (0 : Int) ≤ (n : Int) := by omega
      have h3 : acc.length < 8796093022208 := by omega
      have hg : n < l.length := by omega
      have hr : rd_T47 l (n : Int) = l[n] := by simp [rd_T47, hg]
      apply Ev.succ
      rw [List.drop_eq_getElem_cons hg, List.filter_cons]
      by_cases hk : l[n].f0 = kind
      · have hd : decide (l[n].f0 = kind) = true := decide_eq_true hk
        simp only [term_Names.l0, h1, h2, h3, hr, hk, if_true, wrap_next (show n < 1000000 by omega), decide_true]
        exact Ev.eq (ih (n + 1) (acc ++ [l[n].f2]) (by omega) (by omega) (by simp; omega)) (by simp)
      · have hd : decide (l[n].f0 = kind) = false := decide_eq_false hk
        simp only [term_Names.l0, h1, h2, hr, hk, if_true, if_false, wrap_next (show n < 1000000 by omega), decide_false, Bool.false_eq_true]
        exact ih (n + 1) acc (by omega) (by omega) (by omega)
  exact Ev.eq (key _ 0 [] rfl (Nat.zero_le _) (Nat.le_refl _)) (by simp)
theorem at_any (l : List ByteArray) (s : ByteArray) : decide (rules_at l s < 0) = !(l.any fun x => x.toList == s.toList) := by
  have h : decide (0 ≤ rules_at l s) = l.any fun x => x.toList == s.toList := idxF_any _ _
  rw [← h, Bool.eq_iff_iff]
  simp
theorem all_and2 {α : Type} (l : List α) (p q : α → Bool) : (l.all fun x => p x && q x) = (l.all p && l.all q) := by
  induction l with
  | nil => rfl
  | cons x l ih => simp only [List.all_cons, ih]; cases p x <;> cases q x <;> simp
theorem any_or2 {α : Type} (l : List α) (p q : α → Bool) : (l.any fun x => p x || q x) = (l.any p || l.any q) := by
  induction l with
  | nil => rfl
  | cons x l ih => simp only [List.any_cons, ih]; cases p x <;> cases q x <;> simp
section Both
variable {a0 : ByteArray} {l1 : List ByteArray} {l2 : List (S51)} {l3 : List (S55)} (F : Fit l1 l2 l3) (rule : Int)
theorem Fit.l3_le {l1 : List ByteArray} {l2 : List (S51)} {l3 : List (S55)} (F : Fit l1 l2 l3) : l3.length ≤ 60 := F.ok.1
include F
theorem expr_both (l : List (S47)) (h : WholeT l) (kind : Int) : ∃ v, Ev (fun k => rules_foreign.f k (rules_bk0 a0 l1 l2 l3 rule) l kind) v ∧ Ev (fun k => semblanceref14_expr.f k a0 l1 l2 l3 l kind) (!v) := by
  obtain ⟨t, h1, h2⟩ := type_both l h
  have hl := h.1
  have hl2 := F.v.1
  have hl3 := F.l3_le
  let V : S47 → Bool := fun x => l2.any fun y => y.f0.toList == x.f2.toList
  let S : S47 → Bool := fun x => l3.any fun y => y.f0.toList == x.f2.toList
  let O : S47 → Bool := fun x => if x.f0 = 2 then V x else if x.f0 = 11 then S x else true
  have hO : Ev (fun k => allO l (semblanceref14_expr.ok k a0 l1 l2 l3)) (l.all O) := allO_ev fun x _ => by
    show Ev _ (if x.f0 = 2 then V x else if x.f0 = 11 then S x else true)
    by_cases c2 : x.f0 = 2
    · simp only [semblanceref14_expr.ok, c2, if_true]; exact hasVar_ev a0 l1 l2 l3 x.f2 (by omega)
    · by_cases c11 : x.f0 = 11
      · rw [if_neg c2, if_pos c11]
        simp only [semblanceref14_expr.ok, c2, c11, if_true, if_false]; exact hasState_ev a0 l1 l2 l3 x.f2 (by omega)
      · rw [if_neg c2, if_neg c11]
        simp only [semblanceref14_expr.ok, c2, c11, if_false]; exact Ev.now _
  have e2 : rules_none.f ((l.filter fun x => decide (x.f0 = 2)).map fun x => x.f2) (l2.map fun x => x.f0) = !(l.all fun x => !decide (x.f0 = 2) || V x) := by
    unfold rules_none.f
    simp only [at_any, List.any_map, List.any_filter, List.not_all_eq_any_not]
    congr 1
    funext x
    simp [V, Function.comp_def]
  have e11 : rules_none.f ((l.filter fun x => decide (x.f0 = 11)).map fun x => x.f2) (l3.map fun x => x.f0) = !(l.all fun x => !decide (x.f0 = 11) || S x) := by
    unfold rules_none.f
    simp only [at_any, List.any_map, List.any_filter, List.not_all_eq_any_not]
    congr 1
    funext x
    simp [S, Function.comp_def]
  have eO : l.all O = ((l.all fun x => !decide (x.f0 = 2) || V x) && (l.all fun x => !decide (x.f0 = 11) || S x)) := by
    rw [← all_and2]
    congr 1
    funext x
    show (if x.f0 = 2 then V x else if x.f0 = 11 then S x else true) = _
    by_cases c2 : x.f0 = 2
    · rw [if_pos c2]; simp [c2]
    · by_cases c11 : x.f0 = 11
      · rw [if_neg c2, if_pos c11]; simp [c11]
      · rw [if_neg c2, if_neg c11]; simp [c2, c11]
  generalize hA : (l.all fun x => !decide (x.f0 = 2) || V x) = A at e2 eO
  generalize hB : (l.all fun x => !decide (x.f0 = 11) || S x) = B at e11 eO
  have n2 := names_ev l 2 (by omega)
  have n11 := names_ev l 11 (by omega)
  refine ⟨if t = kind then (!A || !B) else true, ?_, ?_⟩
  · unfold rules_foreign.f
    refine Ev.bind h1 ?_
    by_cases ht : t = kind
    · simp only [ht, if_true]
      refine Ev.bind n2 ?_
      show Ev (fun k => if rules_none.f _ (l2.map fun x => x.f0) = true then _ else (_ : Option (List ByteArray)).bind fun ms => some (rules_none.f ms (l3.map fun x => x.f0))) _
      rw [e2]
      cases A with
      | false => simp only [Bool.not_false, if_true, Bool.true_or]; exact Ev.now _
      | true =>
        simp only [Bool.not_true, Bool.false_eq_true, if_false, Bool.false_or]
        refine Ev.bind n11 ?_
        rw [e11]
        exact Ev.now _
    · simp only [ht, if_false]; exact Ev.now _
  · unfold semblanceref14_expr.f
    refine Ev.bind hO ?_
    rw [eO]
    cases hAB : (A && B) with
    | true =>
      simp only [if_true]
      refine Ev.bind h2 (Ev.const ?_)
      have hA : A = true := by cases A <;> simp_all
      have hB : B = true := by cases B <;> simp_all
      rw [hA, hB]
      by_cases ht : t = kind
      · simp [ht]
      · simp [ht]
    | false =>
      simp only [Bool.false_eq_true, if_false]
      refine Ev.const ?_
      have : (!A || !B) = true := by cases A <;> cases B <;> simp_all
      rw [this]
      simp
theorem one_both (x : S93) (h : ActOk x) : ∃ v, Ev (fun k => rules_acts.one k (rules_bk0 a0 l1 l2 l3 rule) x) v ∧ ∀ any, Ev (fun k => semblanceref14_acts.ok k a0 l1 l2 l3 any x) (!(v || (x.f1 && !any))) := by
  have hl2 := F.v.1
  have hv := hasVar_ev a0 l1 l2 l3 x.f0 (by omega)
  have e : decide (rules_at (l2.map fun y => y.f0) x.f0 < 0) = !(l2.any fun y => y.f0.toList == x.f0.toList) := by
    rw [at_any, List.any_map]; rfl
  generalize (l2.any fun y => y.f0.toList == x.f0.toList) = V at hv e
  have hat : (rules_at (rules_bk0 a0 l1 l2 l3 rule).lV x.f0 < 0) ↔ V = false := by
    show (rules_at (l2.map fun y => y.f0) x.f0 < 0) ↔ _
    cases V <;> simpa using e
  cases V with
  | false =>
    have h0 := hat.2 rfl
    refine ⟨true, ?_, fun any => ?_⟩
    · simp only [rules_acts.one, h0, if_true]; exact Ev.now _
    · unfold semblanceref14_acts.ok
      refine Ev.bind hv ?_
      simp only [Bool.false_eq_true, if_false, Bool.true_or, Bool.not_true]
      exact Ev.now _
  | true =>
    have h0 : ¬ _ := fun hh => Bool.noConfusion (hat.1 hh)
    by_cases hf : x.f1 = true
    · refine ⟨false, ?_, fun any => ?_⟩
      · simp only [rules_acts.one, h0, hf, if_true, if_false]; exact Ev.now _
      · unfold semblanceref14_acts.ok
        refine Ev.bind hv ?_
        simp only [hf, if_true, Bool.false_or, Bool.true_and, Bool.not_not]
        exact Ev.now _
    · have hf0 : x.f1 = false := Bool.eq_false_iff.2 hf
      obtain ⟨v, h1, h2⟩ := expr_both (a0 := a0) F rule x.f2 (h hf0) 1
      refine ⟨v, ?_, fun any => ?_⟩
      · simp only [rules_acts.one, h0, hf, if_false]; exact h1
      · unfold semblanceref14_acts.ok
        refine Ev.bind hv ?_
        simp only [hf0, Bool.false_eq_true, if_true, if_false, Bool.false_and, Bool.or_false]
        exact h2
theorem acts_both (l : List (S93)) (h : ∀ x ∈ l, ActOk x) : ∃ v, Ev (fun k => rules_acts.f k (rules_bk0 a0 l1 l2 l3 rule) l) v ∧ Ev (fun k => semblanceref14_acts.f k a0 l1 l2 l3 l true) (!v) ∧ Ev (fun k => semblanceref14_acts.f k a0 l1 l2 l3 l false) (!(v || l.any fun x => x.f1)) := by
  obtain ⟨g, hg⟩ := ev_pick (f := fun k x => rules_acts.one k (rules_bk0 a0 l1 l2 l3 rule) x) (P := fun x v => ∀ any, Ev (fun k => semblanceref14_acts.ok k a0 l1 l2 l3 any x) (!(v || (x.f1 && !any)))) false l (fun x hx => one_both F rule x (h x hx))
  refine ⟨l.any g, ?_, ?_, ?_⟩
  · obtain ⟨K, hK⟩ := ev_all l (f := fun k x => rules_acts.one k (rules_bk0 a0 l1 l2 l3 rule) x) (fun x hx => (hg x hx).1)
    refine ⟨K, fun k hk => ?_⟩
    have h1 : (l.all fun x => (rules_acts.one k (rules_bk0 a0 l1 l2 l3 rule) x).isSome) = true := List.all_eq_true.2 fun x hx => by rw [hK k hk x hx]; rfl
    show rules_acts.f k (rules_bk0 a0 l1 l2 l3 rule) l = _
    unfold rules_acts.f
    rw [if_pos h1]
    congr 1
    rw [Bool.eq_iff_iff, List.any_eq_true, List.any_eq_true]
    exact ⟨fun ⟨x, hx, H⟩ => ⟨x, hx, by rw [hK k hk x hx] at H; exact H⟩, fun ⟨x, hx, H⟩ => ⟨x, hx, by rw [hK k hk x hx]; exact H⟩⟩
  · refine Ev.eq (allO_ev (fun x hx => (hg x hx).2 true)) ?_
    simp only [Bool.not_true, Bool.and_false, Bool.or_false]
    rw [List.not_any_eq_all_not]
  · refine Ev.eq (allO_ev (fun x hx => (hg x hx).2 false)) ?_
    simp only [Bool.not_false, Bool.and_true]
    rw [← any_or2, List.not_any_eq_all_not]
theorem tr_both (y : S58) (h : TrOk y) (hr : 6 ≤ rule ∧ rule ≤ 9) : ∃ v, Ev (fun k => rules_bad.f k (rules_bk0 a0 l1 l2 l3 rule) y) v ∧ Ev (fun k => semblanceref14_trans.f k a0 l1 l2 l3 rule y.f0 y.f1 y.f2 y.f3) (!v) := by
  have hl1 := F.e.1
  have hl3 := F.l3_le
  have hbr : (rules_bk0 a0 l1 l2 l3 rule).rule = rule := rfl
  have hb1 : (rules_bk0 a0 l1 l2 l3 rule).l1 = l1 := rfl
  have hbS : (rules_bk0 a0 l1 l2 l3 rule).lS = l3.map fun y => y.f0 := rfl
  by_cases c6 : rule = 6
  · by_cases hn : y.f0.toList = ([] : List UInt8)
    · refine ⟨false, ?_, ?_⟩
      · simp only [rules_bad.f, hbr, c6, hn, if_true]; exact Ev.now _
      · simp only [semblanceref14_trans.f, c6, hn, if_true]; exact Ev.now _
    · refine ⟨decide (rules_at l1 y.f0 < 0), ?_, ?_⟩
      · simp only [rules_bad.f, hbr, hb1, c6, hn, if_true, if_false]; exact Ev.now _
      · simp only [semblanceref14_trans.f, c6, hn, if_true, if_false]
        rw [at_any, Bool.not_not]
        exact Ev.bind (hasEvent_ev a0 l1 l2 l3 y.f0 (by omega)) (Ev.now _)
  · by_cases c7 : rule = 7
    · by_cases hn : y.f3.toList = ([] : List UInt8)
      · refine ⟨false, ?_, ?_⟩
        · simp only [rules_bad.f, hbr, c6, c7, hn, if_true, if_false, show ¬ ((7 : Int) = 6) by decide]; exact Ev.now _
        · simp only [semblanceref14_trans.f, c7, hn, if_true, if_false, show ¬ ((7 : Int) = 6) by decide]; exact Ev.now _
      · refine ⟨decide (rules_at (l3.map fun y => y.f0) y.f3 < 0), ?_, ?_⟩
        · simp only [rules_bad.f, hbr, hbS, c7, hn, if_true, if_false, show ¬ ((7 : Int) = 6) by decide]; exact Ev.now _
        · simp only [semblanceref14_trans.f, c7, hn, if_true, if_false, show ¬ ((7 : Int) = 6) by decide]
          rw [at_any, Bool.not_not, List.any_map]
          exact Ev.bind (hasState_ev a0 l1 l2 l3 y.f3 (by omega)) (Ev.now _)
    · by_cases c8 : rule = 8
      · by_cases hn : (y.f1.length : Int) > 0
        · have hn0 : ¬ ((y.f1.length : Int) = 0) := by omega
          obtain ⟨v, h1, h2⟩ := expr_both (a0 := a0) F rule y.f1 (h.1 (by omega)) 2
          refine ⟨v, ?_, ?_⟩
          · simp only [rules_bad.f, hbr, c6, c7, hn, if_true, if_false, if_pos c8]; exact h1
          · simp only [semblanceref14_trans.f, c6, c7, hn0, if_false, if_pos c8]; exact Ev.bind h2 (Ev.now _)
        · have hn0 : ((y.f1.length : Int) = 0) := by omega
          refine ⟨false, ?_, ?_⟩
          · simp only [rules_bad.f, hbr, c6, c7, hn, if_false, if_pos c8]; exact Ev.now _
          · simp only [semblanceref14_trans.f, c6, c7, hn0, if_true, if_false, if_pos c8]; exact Ev.now _
      · have c9 : rule = 9 := by omega
        obtain ⟨v, h1, h2, _⟩ := acts_both (a0 := a0) F rule y.f2 h.2.2
        refine ⟨v, ?_, ?_⟩
        · simp only [rules_bad.f, hbr, c6, c7, c8, if_false, if_pos c9]; exact h1
        · simp only [semblanceref14_trans.f, c6, c7, c8, if_false]; exact Ev.bind h2 (Ev.now _)
end Both
/-! ### rule by rule -/
theorem rules_all_len {α : Type} {g : Nat → List α} {c : Nat} : ∀ {n : Nat}, (∀ i, i < n → (g i).length ≤ c) → (rules_all n g).length ≤ n * c
  | 0, _ => by simp [rules_all]
  | n + 1, h => by
    have h1 := rules_all_len (n := n) (fun i hi => h i (by omega))
    have h2 := h n (by omega)
    rw [rules_all_succ, List.length_append, Nat.succ_mul]
    omega
theorem brk_ev {α : Type} {n : Nat} {h : Nat → Nat → Option (List α)} {g : Nat → List α} (hh : ∀ i, i < n → Ev (fun k => h k i) (g i)) : Ev (fun k => brk_all n (h k)) (rules_all n g) := by
  obtain ⟨K, hK⟩ := ev_all (List.range n) (f := fun k i => h k i) (g := g) (fun i hi => hh i (List.mem_range.1 hi))
  exact ⟨K, fun k hk => brk_some (fun i hi => hK k hk i (List.mem_range.2 hi))⟩
theorem any_same {α : Type} {l : List α} {p q : α → Bool} (h : ∀ x ∈ l, p x = q x) : l.any p = l.any q := by
  rw [Bool.eq_iff_iff, List.any_eq_true, List.any_eq_true]
  exact ⟨fun ⟨x, hx, H⟩ => ⟨x, hx, by rw [← h x hx]; exact H⟩, fun ⟨x, hx, H⟩ => ⟨x, hx, by rw [h x hx]; exact H⟩⟩
/-- a flaw where there is one -/
def mark (rule i j : Int) (b : Bool) : List (S66) := if b = true then [⟨rule, i, j⟩] else []
theorem mark_len (rule i j : Int) (b : Bool) : (mark rule i j b).length ≤ 1 := by cases b <;> simp [mark]
section All
variable {a0 : ByteArray} {l1 : List ByteArray} {l2 : List (S51)} {l3 : List (S55)} (F : Fit l1 l2 l3) (rule : Int)
/-- both tell the same flaws of a rule -/
def Tell (a0 : ByteArray) (l1 : List ByteArray) (l2 : List (S51)) (l3 : List (S55)) (rule : Int) (fl : List (S66)) : Prop :=
  Ev (fun k => rules_Broken.g k a0 l1 l2 l3 rule) fl ∧ Ev (fun k => brk_all (semblanceref14_Broken.n l1 l2 l3 rule) (semblanceref14_Broken.at_ k a0 l1 l2 l3 rule)) fl ∧ fl.length ≤ 100000
theorem at_item {a0 : ByteArray} {l1 : List ByteArray} {l2 : List (S51)} {l3 : List (S55)} {rule : Int} {i : Nat} {b : Bool} (h5 : rule ≤ 5) (h : Ev (fun k => semblanceref14_item.f k a0 l1 l2 l3 rule (i : Int)) (!b)) : Ev (fun k => semblanceref14_Broken.at_ k a0 l1 l2 l3 rule i) (mark rule i 0 b) := by
  unfold semblanceref14_Broken.at_
  simp only [h5, if_true]
  refine Ev.bind h (Ev.const ?_)
  cases b <;> rfl
theorem twins_mark (rule : Int) (l : List ByteArray) (hl : l.length ≤ 1000000) (hs : ∀ s ∈ l, s.size ≤ 1000000) : rules_twins.of rule l = some (rules_all l.length (fun i => mark rule i 0 (decide ((l.map bts).getD i [] ∈ (l.map bts).take i)))) := by
  rw [twins_of rule l hl hs]
  congr 1
  refine rules_all_congr (fun i _ => ?_)
  unfold mark
  simp only [decide_eq_true_eq]
theorem rd_names {α : Type} (l : List α) (d : α) (f : α → ByteArray) (i : Nat) (hi : i < l.length) : rdOf ByteArray.empty (l.map f) (i : Int) = f (rdOf d l (i : Int)) := by
  simp [rdOf, hi]
include F
theorem tell1 : ∃ fl, Tell a0 l1 l2 l3 1 fl := by
  have h1 := F.e.1
  refine ⟨rules_all l1.length (fun i => mark 1 i 0 (decide ((l1.map bts).getD i [] ∈ (l1.map bts).take i))), Ev.const ?_, ?_, ?_⟩
  · show rules_twins.of 1 l1 = _
    exact twins_mark 1 l1 (by omega) (fun s hs => by have := F.e.2 s hs; omega)
  · show Ev (fun k => brk_all l1.length (semblanceref14_Broken.at_ k a0 l1 l2 l3 1)) _
    refine brk_ev (fun i hi => at_item (by decide) ⟨0, fun k _ => ?_⟩)
    show semblanceref14_item.f k a0 l1 l2 l3 1 (i : Int) = _
    rw [← dup_iff l1 i hi]
    have g1 : (i : Int) < (l1.length : Int) := by omega
    have g0 : (0 : Int) ≤ (i : Int) := by omega
    simp only [semblanceref14_item.f, g1, g0, if_true, Int.toNat_natCast]
  · have := rules_all_len (n := l1.length) (g := fun i => mark 1 i 0 (decide ((l1.map bts).getD i [] ∈ (l1.map bts).take i))) (c := 1) (fun i _ => mark_len _ _ _ _)
    omega
theorem tell2 : ∃ fl, Tell a0 l1 l2 l3 2 fl := by
  have h2 := F.v.1
  have hn : semblanceref14_Broken.n l1 l2 l3 2 = l2.length := by simp [semblanceref14_Broken.n]
  refine ⟨rules_all l2.length (fun i => mark 2 i 0 (decide (((l2.map fun x => x.f0).map bts).getD i [] ∈ ((l2.map fun x => x.f0).map bts).take i))), Ev.const ?_, ?_, ?_⟩
  · show rules_twins.of 2 (l2.map fun x => x.f0) = _
    rw [twins_mark 2 _ (by simp; omega) (fun s hs => by
      obtain ⟨x, hx, rfl⟩ := List.mem_map.1 hs
      have := (F.v.2 x hx).1
      omega), List.length_map]
  · rw [hn]
    refine brk_ev (fun i hi => at_item (by decide) ⟨0, fun k _ => ?_⟩)
    show semblanceref14_item.f k a0 l1 l2 l3 2 (i : Int) = _
    rw [← dup_iff _ i (by simpa using hi)]
    have e : ∀ m ∈ List.range i, ((rdOf ByteArray.empty (l2.map fun x => x.f0) (m : Int)).toList == (rdOf ByteArray.empty (l2.map fun x => x.f0) (i : Int)).toList) = (((rd_T51 l2 (m : Int)).f0).toList == ((rd_T51 l2 (i : Int)).f0).toList) := fun m hm => by
      have hm := List.mem_range.1 hm
      simp [rdOf, rd_T51, hi, show m < l2.length by omega]
    rw [any_same e]
    have g1 : (i : Int) < (l2.length : Int) := by omega
    have g0 : (0 : Int) ≤ (i : Int) := by omega
    simp only [semblanceref14_item.f, g1, g0, if_true, Int.toNat_natCast, if_false, show ¬ ((2 : Int) = 1) by decide]
  · have := rules_all_len (n := l2.length) (g := fun i => mark 2 i 0 (decide (((l2.map fun x => x.f0).map bts).getD i [] ∈ ((l2.map fun x => x.f0).map bts).take i))) (c := 1) (fun i _ => mark_len _ _ _ _)
    omega
theorem tell4 : ∃ fl, Tell a0 l1 l2 l3 4 fl := by
  have h2 := F.l3_le
  have hn : semblanceref14_Broken.n l1 l2 l3 4 = l3.length := by simp [semblanceref14_Broken.n]
  refine ⟨rules_all l3.length (fun i => mark 4 i 0 (decide (((l3.map fun x => x.f0).map bts).getD i [] ∈ ((l3.map fun x => x.f0).map bts).take i))), Ev.const ?_, ?_, ?_⟩
  · show rules_twins.of 4 (l3.map fun x => x.f0) = _
    rw [twins_mark 4 _ (by simp; omega) (fun s hs => by
      obtain ⟨x, hx, rfl⟩ := List.mem_map.1 hs
      have := (F.s x hx).1
      omega), List.length_map]
  · rw [hn]
    refine brk_ev (fun i hi => at_item (by decide) ⟨0, fun k _ => ?_⟩)
    show semblanceref14_item.f k a0 l1 l2 l3 4 (i : Int) = _
    rw [← dup_iff _ i (by simpa using hi)]
    have e : ∀ m ∈ List.range i, ((rdOf ByteArray.empty (l3.map fun x => x.f0) (m : Int)).toList == (rdOf ByteArray.empty (l3.map fun x => x.f0) (i : Int)).toList) = (((rd_T55 l3 (m : Int)).f0).toList == ((rd_T55 l3 (i : Int)).f0).toList) := fun m hm => by
      have hm := List.mem_range.1 hm
      simp [rdOf, rd_T55, hi, show m < l3.length by omega]
    rw [any_same e]
    have g1 : (i : Int) < (l3.length : Int) := by omega
    have g0 : (0 : Int) ≤ (i : Int) := by omega
    simp only [semblanceref14_item.f, g1, g0, if_true, Int.toNat_natCast, if_false, show ¬ ((4 : Int) = 1) by decide, show ¬ ((4 : Int) = 2) by decide, show ¬ ((4 : Int) = 3) by decide]
  · have := rules_all_len (n := l3.length) (g := fun i => mark 4 i 0 (decide (((l3.map fun x => x.f0).map bts).getD i [] ∈ ((l3.map fun x => x.f0).map bts).take i))) (c := 1) (fun i _ => mark_len _ _ _ _)
    omega
theorem tell3 : ∃ fl, Tell a0 l1 l2 l3 3 fl := by
  have h2 := F.v.1
  have hn : semblanceref14_Broken.n l1 l2 l3 3 = l2.length := by simp [semblanceref14_Broken.n]
  refine ⟨rules_all l2.length (fun i => mark 3 i 0 (rules_range (rd_T51 l2 (i : Int)))), Ev.const rfl, ?_, ?_⟩
  · rw [hn]
    refine brk_ev (fun i hi => at_item (by decide) ⟨0, fun k _ => ?_⟩)
    show semblanceref14_item.f k a0 l1 l2 l3 3 (i : Int) = _
    have hr : rd_T51 l2 (i : Int) = l2[i] := by simp [rd_T51, hi]
    obtain ⟨_, r1, r2, r3⟩ := F.v.2 l2[i] (List.getElem_mem hi)
    have w : wrap64 (l2[i].f2 - l2[i].f1) = l2[i].f2 - l2[i].f1 := wrap_in (by omega) (by omega)
    have h1 : (i : Int) < (l2.length : Int) := by omega
    have h0 : (0 : Int) ≤ (i : Int) := by omega
    simp only [semblanceref14_item.f, h1, h0, hr, if_true, show ¬ ((3 : Int) = 1) by decide, show ¬ ((3 : Int) = 2) by decide, if_false, rules_range, w]
    congr 1
    rw [Bool.eq_iff_iff]
    simp
    omega
  · have := rules_all_len (n := l2.length) (g := fun i => mark 3 i 0 (rules_range (rd_T51 l2 (i : Int)))) (c := 1) (fun i _ => mark_len _ _ _ _)
    omega
theorem tell5 : ∃ fl, Tell a0 l1 l2 l3 5 fl := by
  have h2 := F.l3_le
  have hn : semblanceref14_Broken.n l1 l2 l3 5 = l3.length := by simp [semblanceref14_Broken.n]
  obtain ⟨c, hc, hcc⟩ := Sh.check_prog l3
  have c0 : c = 0 := Sh.checked_one hcc F.chk
  subst c0
  have hk : ∀ i, i < l3.length → 1 ≤ (rd_T55 l3 (i : Int)).f1 ∧ (rd_T55 l3 (i : Int)).f1 ≤ 3 := fun i hi => by
    show 1 ≤ Sh.Kf l3 i ∧ Sh.Kf l3 i ≤ 3
    by_cases e : i = 0
    · subst e; exact F.ok.2.2.1
    · exact (F.ok.2.2.2 i (by omega) hi).2.2.2.2
  refine ⟨rules_all l3.length (fun i => mark 5 i 0 (rules_kid (rd_T55 l3 (i : Int)) ((Sh.kd l3 i l3.length 0).length : Int))), ?_, ?_, ?_⟩
  · obtain ⟨K, hK⟩ := ev_all (List.range l3.length) (f := fun k (i : Nat) => shape_Kids.f k l3 (i : Int)) (g := fun i => Sh.kd l3 i l3.length 0) (fun i hi => Sh.kids_f l3 F.ok hc i (List.mem_range.1 hi))
    refine ⟨K, fun k hk => ?_⟩
    have h1 : ((List.range l3.length).all fun i => (shape_Kids.f k l3 (i : Int)).isSome) = true := List.all_eq_true.2 fun i hi => by rw [hK k hk i hi]; rfl
    show rules_kids.f k (rules_bk0 a0 l1 l2 l3 5) = _
    unfold rules_kids.f
    rw [if_pos (show ((List.range (rules_bk0 a0 l1 l2 l3 5).l3.length).all fun i => (shape_Kids.f k (rules_bk0 a0 l1 l2 l3 5).l3 (i : Int)).isSome) = true from h1)]
    congr 1
    refine rules_all_congr (fun i hi => ?_)
    have hKi := hK k hk i (List.mem_range.2 hi)
    show (if rules_kid (rd_T55 l3 (i : Int)) (((shape_Kids.f k l3 (i : Int)).getD []).length : Int) = true then _ else _) = _
    rw [hKi]
    rfl
  · rw [hn]
    refine brk_ev (fun i hi => at_item (by decide) ?_)
    have h1 : (i : Int) < (l3.length : Int) := by omega
    have h0 : (0 : Int) ≤ (i : Int) := by omega
    simp only [semblanceref14_item.f, h1, h0, if_true, show ¬ ((5 : Int) = 1) by decide, show ¬ ((5 : Int) = 2) by decide, show ¬ ((5 : Int) = 3) by decide, show ¬ ((5 : Int) = 4) by decide, if_false]
    refine Ev.bind (Sh.kids_ref_f l3 (by omega) (i : Int)) (Ev.const ?_)
    obtain ⟨k1, k3⟩ := hk i hi
    congr 1
    generalize ((Sh.kd l3 (i : Int) l3.length 0).length : Int) = n
    unfold rules_kid
    generalize (rd_T55 l3 (i : Int)).f1 = K at k1 k3
    have : K = 1 ∨ K = 2 ∨ K = 3 := by omega
    rcases this with rfl | rfl | rfl
    · simp
    · rw [show wrap64 (2 - 1) = 1 by unfold wrap64; omega]; rw [Bool.eq_iff_iff]; simp
    · rw [show wrap64 (3 - 1) = 2 by unfold wrap64; omega]; rw [Bool.eq_iff_iff]; simp
  · have := rules_all_len (n := l3.length) (g := fun i => mark 5 i 0 (rules_kid (rd_T55 l3 (i : Int)) ((Sh.kd l3 i l3.length 0).length : Int))) (c := 1) (fun i _ => mark_len _ _ _ _)
    omega
omit F in
theorem rd_mem {i : Nat} (hi : i < l3.length) : (rd_T55 l3 (i : Int)) ∈ l3 := by
  have hr : rd_T55 l3 (i : Int) = l3[i] := by simp [rd_T55, hi]
  rw [hr]
  exact List.getElem_mem hi
omit F in
theorem rdt_mem (l : List (S58)) {i : Nat} (hi : i < l.length) : (rd_T58 l (i : Int)) ∈ l := by
  have hr : rd_T58 l (i : Int) = l[i] := by simp [rd_T58, hi]
  rw [hr]
  exact List.getElem_mem hi
theorem tells (hr : 6 ≤ rule ∧ rule ≤ 9) : ∃ fl, Tell a0 l1 l2 l3 rule fl := by
  have h2 := F.l3_le
  have hn : semblanceref14_Broken.n l1 l2 l3 rule = l3.length := by
    unfold semblanceref14_Broken.n
    rw [if_neg (by omega), if_neg]
    simp only [Bool.or_eq_true, beq_iff_eq]
    omega
  obtain ⟨g, hg⟩ := ev_pick (f := fun k y => rules_bad.f k (rules_bk0 a0 l1 l2 l3 rule) y) (P := fun y v => Ev (fun k => semblanceref14_trans.f k a0 l1 l2 l3 rule y.f0 y.f1 y.f2 y.f3) (!v)) false (l3.flatMap fun x => x.f5) (fun y hy => by
    obtain ⟨x, hx, hy⟩ := List.mem_flatMap.1 hy
    exact tr_both F rule y ((F.s x hx).2.2.2.2 y hy) hr)
  have hin : ∀ i, i < l3.length → ∀ m, m < (rd_T55 l3 (i : Int)).f5.length → rd_T58 (rd_T55 l3 (i : Int)).f5 (m : Int) ∈ l3.flatMap fun x => x.f5 := fun i hi m hm =>
    List.mem_flatMap.2 ⟨_, rd_mem hi, rdt_mem _ hm⟩
  refine ⟨rules_all l3.length (fun i => rules_all (rd_T55 l3 (i : Int)).f5.length (fun m => mark rule i m (g (rd_T58 (rd_T55 l3 (i : Int)).f5 (m : Int))))), ?_, ?_, ?_⟩
  · obtain ⟨K, hK⟩ := ev_all (l3.flatMap fun x => x.f5) (f := fun k y => rules_bad.f k (rules_bk0 a0 l1 l2 l3 rule) y) (g := g) (fun y hy => (hg y hy).1)
    refine ⟨K, fun k hk => ?_⟩
    have hK2 := fun i hi m hm => hK k hk _ (hin i hi m hm)
    show rules_Broken.g k a0 l1 l2 l3 rule = _
    unfold rules_Broken.g
    rw [if_neg (by omega), if_neg (by omega), if_neg (by omega), if_neg (by omega), if_neg (by omega), if_neg (by omega)]
    unfold rules_transitions.f
    rw [if_pos (List.all_eq_true.2 fun i hi => List.all_eq_true.2 fun m hm => by rw [show (rules_bk0 a0 l1 l2 l3 rule).l3 = l3 from rfl, hK2 i (List.mem_range.1 hi) m (List.mem_range.1 hm)]; rfl)]
    congr 1
    refine rules_all_congr (fun i hi => rules_all_congr (fun m hm => ?_))
    unfold rules_transitions.one
    rw [show (rules_bk0 a0 l1 l2 l3 rule).l3 = l3 from rfl, hK2 i hi m hm]
    rfl
  · rw [hn]
    refine brk_ev (fun i hi => ?_)
    unfold semblanceref14_Broken.at_
    simp only [show ¬ rule ≤ 5 by omega, show ¬ rule = 10 by omega, if_false]
    refine brk_ev (fun m hm => ?_)
    unfold semblanceref14_Broken.one
    refine Ev.bind (hg _ (hin i hi m hm)).2 (Ev.const ?_)
    cases g (rd_T58 (rd_T55 l3 (i : Int)).f5 (m : Int)) <;> rfl
  · have := rules_all_len (n := l3.length) (g := fun i => rules_all (rd_T55 l3 (i : Int)).f5.length (fun m => mark rule i m (g (rd_T58 (rd_T55 l3 (i : Int)).f5 (m : Int))))) (c := 16) (fun i hi => by
      have h1 := rules_all_len (n := (rd_T55 l3 (i : Int)).f5.length) (g := fun m => mark rule i m (g (rd_T58 (rd_T55 l3 (i : Int)).f5 (m : Int)))) (c := 1) (fun m _ => mark_len _ _ _ _)
      have h3 := (F.s _ (rd_mem hi)).2.2.2.1
      omega)
    omega
theorem tell10 : ∃ fl, Tell a0 l1 l2 l3 10 fl := by
  have h2 := F.l3_le
  have hn : semblanceref14_Broken.n l1 l2 l3 10 = l3.length := by simp [semblanceref14_Broken.n]
  have both : ∀ l : List (S93), (∀ x ∈ l, ActOk x) → ∃ v, Ev (fun k => rules_edge k (rules_bk0 a0 l1 l2 l3 10) l) v ∧ Ev (fun k => semblanceref14_acts.f k a0 l1 l2 l3 l false) (!v) := fun l h => by
    obtain ⟨v, h1, _, h3⟩ := acts_both (a0 := a0) F 10 l h
    exact ⟨_, by unfold rules_edge; exact Ev.bind h1 (Ev.now _), h3⟩
  obtain ⟨g, hg⟩ := ev_pick (f := fun k (x : S55) => rules_edge k (rules_bk0 a0 l1 l2 l3 10) x.f3) (P := fun x v => Ev (fun k => semblanceref14_acts.f k a0 l1 l2 l3 x.f3 false) (!v)) false l3 (fun x hx => both x.f3 (F.s x hx).2.1.2)
  obtain ⟨q, hq⟩ := ev_pick (f := fun k (x : S55) => rules_edge k (rules_bk0 a0 l1 l2 l3 10) x.f4) (P := fun x v => Ev (fun k => semblanceref14_acts.f k a0 l1 l2 l3 x.f4 false) (!v)) false l3 (fun x hx => both x.f4 (F.s x hx).2.2.1.2)
  refine ⟨rules_all l3.length (fun i => mark 10 i 0 (g (rd_T55 l3 (i : Int))) ++ mark 10 i 1 (q (rd_T55 l3 (i : Int)))), ?_, ?_, ?_⟩
  · obtain ⟨K, hK⟩ := ev_all l3 (f := fun k (x : S55) => rules_edge k (rules_bk0 a0 l1 l2 l3 10) x.f3) (g := g) (fun y hy => (hg y hy).1)
    obtain ⟨L, hL⟩ := ev_all l3 (f := fun k (x : S55) => rules_edge k (rules_bk0 a0 l1 l2 l3 10) x.f4) (g := q) (fun y hy => (hq y hy).1)
    refine ⟨max K L, fun k hk => ?_⟩
    have hK2 : ∀ i, i < l3.length → rules_edge k (rules_bk0 a0 l1 l2 l3 10) (rd_T55 l3 (i : Int)).f3 = some (g (rd_T55 l3 (i : Int))) := fun i hi => hK k (by omega) _ (rd_mem hi)
    have hL2 : ∀ i, i < l3.length → rules_edge k (rules_bk0 a0 l1 l2 l3 10) (rd_T55 l3 (i : Int)).f4 = some (q (rd_T55 l3 (i : Int))) := fun i hi => hL k (by omega) _ (rd_mem hi)
    show rules_edges.f k (rules_bk0 a0 l1 l2 l3 10) = _
    unfold rules_edges.f
    rw [if_pos (List.all_eq_true.2 fun i hi => by
      have h1 := hK2 i (List.mem_range.1 hi)
      have h2 := hL2 i (List.mem_range.1 hi)
      show (Option.isSome _ && Option.isSome _) = true
      rw [show (rules_bk0 a0 l1 l2 l3 10).l3 = l3 from rfl, h1, h2]; rfl)]
    congr 1
    refine rules_all_congr (fun i hi => ?_)
    show rules_all 2 _ = _
    rw [rules_all_succ, rules_all_succ]
    show ([] ++ rules_edges.one k (rules_bk0 a0 l1 l2 l3 10) i (rd_T55 l3 (i : Int)) 0) ++ rules_edges.one k (rules_bk0 a0 l1 l2 l3 10) i (rd_T55 l3 (i : Int)) 1 = _
    unfold rules_edges.one
    simp only [if_true, show ¬ (1 = 0) by decide, if_false]
    rw [hK2 i hi, hL2 i hi]
    rfl
  · rw [hn]
    refine brk_ev (fun i hi => ?_)
    unfold semblanceref14_Broken.at_
    simp only [show ¬ (10 : Int) ≤ 5 by decide, if_false, if_true]
    refine Ev.bind (hg _ (rd_mem hi)).2 (Ev.bind (hq _ (rd_mem hi)).2 (Ev.const ?_))
    cases g (rd_T55 l3 (i : Int)) <;> cases q (rd_T55 l3 (i : Int)) <;> rfl
  · have := rules_all_len (n := l3.length) (g := fun i => mark 10 i 0 (g (rd_T55 l3 (i : Int))) ++ mark 10 i 1 (q (rd_T55 l3 (i : Int)))) (c := 2) (fun i _ => by
      rw [List.length_append]
      have := mark_len 10 i 0 (g (rd_T55 l3 (i : Int)))
      have := mark_len 10 i 1 (q (rd_T55 l3 (i : Int)))
      omega)
    omega
omit F in
theorem tell_none (h1 : rule < 1 ∨ 10 < rule) : Ev (fun k => rules_Broken.g k a0 l1 l2 l3 rule) [] := by
  have hb : ∀ k y, rules_bad.f k (rules_bk0 a0 l1 l2 l3 rule) y = some false := fun k y => by
    have e : (rules_bk0 a0 l1 l2 l3 rule).rule = rule := rfl
    unfold rules_bad.f
    rw [e, if_neg (by omega), if_neg (by omega), if_neg (by omega), if_neg (by omega)]
  refine ⟨0, fun k _ => ?_⟩
  show rules_Broken.g k a0 l1 l2 l3 rule = _
  unfold rules_Broken.g
  rw [if_neg (by omega), if_neg (by omega), if_neg (by omega), if_neg (by omega), if_neg (by omega), if_neg (by omega)]
  unfold rules_transitions.f
  rw [if_pos (List.all_eq_true.2 fun i hi => List.all_eq_true.2 fun m hm => by rw [hb]; rfl)]
  congr 1
  have h0 : (rules_all l3.length (rules_transitions.at_ k (rules_bk0 a0 l1 l2 l3 rule))).length ≤ l3.length * 0 := rules_all_len (fun i hi => by
    have h0 : (rules_all (rd_T55 l3 (i : Int)).f5.length (rules_transitions.one k (rules_bk0 a0 l1 l2 l3 rule) i (rd_T55 l3 (i : Int)).f5)).length ≤ (rd_T55 l3 (i : Int)).f5.length * 0 := rules_all_len (fun m hm => by
      unfold rules_transitions.one
      rw [hb]
      exact Nat.le_refl 0)
    rw [Nat.mul_zero] at h0
    exact h0)
  rw [Nat.mul_zero] at h0
  exact List.length_eq_zero_iff.1 (Nat.le_zero.1 h0)
/-- what both tell -/
theorem tell_all (hr : 1 ≤ rule ∧ rule ≤ 10) : ∃ fl, Tell a0 l1 l2 l3 rule fl := by
  have h : rule = 1 ∨ rule = 2 ∨ rule = 3 ∨ rule = 4 ∨ rule = 5 ∨ rule = 10 ∨ (6 ≤ rule ∧ rule ≤ 9) := by omega
  rcases h with rfl | rfl | rfl | rfl | rfl | rfl | h
  · exact tell1 F
  · exact tell2 F
  · exact tell3 F
  · exact tell4 F
  · exact tell5 F
  · exact tell10 F
  · exact tells F rule h
theorem broken_of {fl : List (S66)} (h : Ev (fun k => rules_Broken.g k a0 l1 l2 l3 rule) fl) (hl : fl.length ≤ 100000) : Ev (fun k => rules_Broken.f k a0 l1 l2 l3 rule) fl := by
  have h1 := F.e.1
  have h2 := F.v.1
  have h3 := F.l3_le
  unfold rules_Broken.f
  simp only [show l1.length ≤ 100000 ∧ l2.length ≤ 100000 ∧ l3.length ≤ 100000 by omega, and_self, if_true]
  exact Ev.bind h (Ev.const (if_pos (by omega)))
theorem broken_all (hr : 1 ≤ rule ∧ rule ≤ 10) : ∃ fl, Ev (fun k => rules_Broken.f k a0 l1 l2 l3 rule) fl ∧ Ev (fun k => semblanceref14_Broken.f k a0 l1 l2 l3 rule) fl ∧ fl.length ≤ 100000 := by
  obtain ⟨fl, h1, h2, h3⟩ := tell_all (a0 := a0) F rule hr
  refine ⟨fl, broken_of F rule h1 h3, ?_, h3⟩
  unfold semblanceref14_Broken.f
  exact Ev.bind h2 (Ev.const (if_pos (by omega)))
theorem broken_none (hr : rule < 1 ∨ 10 < rule) : Ev (fun k => rules_Broken.f k a0 l1 l2 l3 rule) [] := broken_of F rule (tell_none rule hr) (by simp)
end All
theorem flaws_same (l : List (S66)) (hl : l.length ≤ 100000) : Ev (fun k => semblanceref14_Same.f k l l) true := by
  have key : ∀ (d n : Nat), l.length - n = d → n ≤ l.length → Ev (fun k => semblanceref14_Same.l0 k l l n) true := by
    intro d
    induction d with
    | zero =>
      intro n hd hn
      have h1 : ¬ ((n : Int) < (l.length : Int)) := by omega
      apply Ev.succ
      simp only [semblanceref14_Same.l0, h1, if_false]
      exact Ev.now _
    | succ d ih =>
      intro n hd hn
      have h1 : (n : Int) < (l.length : Int) := by omega
      have h2 : (0 : Int) ≤ (n : Int) := by omega
      apply Ev.succ
      simp only [semblanceref14_Same.l0, h1, h2, if_true, beq_self_eq_true, Bool.not_true, Bool.or_false, Bool.false_eq_true, if_false, wrap_next (show n < 1000000 by omega)]
      exact ih (n + 1) (by omega) (by omega)
  unfold semblanceref14_Same.f
  simp only [if_true]
  exact key _ 0 rfl (Nat.zero_le _)
theorem kept_ev {a0 : ByteArray} {l1 : List ByteArray} {l2 : List (S51)} {l3 : List (S55)} {rule : Int} {fl : List (S66)} (h : Ev (fun k => rules_Broken.f k a0 l1 l2 l3 rule) fl) : Ev (fun k => rules_Kept.f k a0 l1 l2 l3 rule) ((fl.length : Int) == 0) := by
  unfold rules_Kept.f
  exact Ev.bind h (Ev.now _)

end Go.Proofs.Ytoeioigpkfgppaa.XR
