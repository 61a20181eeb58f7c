import Derived.Test.YtbiegkifpkeaoaaXFuel
import Derived.Test.YtbiegkifpkeaoaaXShapePlain
import Derived.Test.YtbiegkifpkeaoaaXSlshape
import Derived.Test.YtbiegkifpkeaoaaXSo
import Derived.Test.YtbiegkifpkeaoaaXSp1
import Derived.Test.YtbiegkifpkeaoaaXSp2
import Derived.Test.YtbiegkifpkeaoaaXSp3
import Derived.Test.YtbiegkifpkeaoaaXSp5
import Derived.Test.YtbiegkifpkeaoaaXSp6
namespace Go.Proofs.Ytbiegkifpkeaoaa.XS
open Go.RowKit Go.Proofs.Ytbiegkifpkeaoaa.XRead Go.Proofs.Ytbiegkifpkeaoaa.XS Go.Proofs.YtbiegkifpkeaoaaW.PrintWords Go.Proofs.YtbiegkifpkeaoaaW.PrintLast Go.Proofs.YtbiegkifpkeaoaaW.PrintMore
open Go.Proofs.Ytbiegkifpkeaoaa.ShapePlain Go.Proofs.Ytbiegkifpkeaoaa.XFuel
set_option linter.unusedVariables false
set_option linter.unusedSimpArgs false
/-- states that stand right, none too deep -/
def Okay (l : List (S102)) : Prop := l.length ≤ 60 ∧ valid (Pf l) (Kf l) l.length
theorem check_zero {l : List (S102)} {c : Int} (h : checked l c) (e : c = 0) : Okay l ∧ 1 ≤ l.length := by
  rcases h with h | h | h | h
  · omega
  · omega
  · omega
  · exact ⟨⟨h.1, h.2.1.2⟩, h.2.1.1⟩
theorem there_any (l : List (S102)) (c : Int) (hc : shape_Check.f l = some c) (p : List Int) (hp : p.length ≤ 100) : shape_there.f l p = some (decide (c = 0) && !(p.any (shape_there.off l.length))) := by
  unfold shape_there.f
  rw [if_pos (by omega), hc]
  simp
theorem there_one (l : List (S102)) (c : Int) (hc : shape_Check.f l = some c) (i : Int) : shape_there.f l [i] = some (decide (c = 0 ∧ 0 ≤ i ∧ i < l.length)) := by
  rw [there_any l c hc _ (by simp)]
  congr 1
  simp only [List.any_cons, List.any_nil, Bool.or_false, shape_there.off]
  rw [Bool.eq_iff_iff]
  simp
theorem there_two (l : List (S102)) (c : Int) (hc : shape_Check.f l = some c) (i k : Int) : shape_there.f l [i, k] = some (decide (c = 0 ∧ (0 ≤ i ∧ i < l.length) ∧ 0 ≤ k ∧ k < l.length)) := by
  rw [there_any l c hc _ (by simp)]
  congr 1
  simp only [List.any_cons, List.any_nil, Bool.or_false, shape_there.off]
  rw [Bool.eq_iff_iff]
  simp
theorem there_in (l : List (S102)) (hc : shape_Check.f l = some 0) (i : Nat) (hi : i < l.length) : shape_there.f l [(i : Int)] = some true := by
  rw [there_one l 0 hc]; congr 1; simp; omega
theorem there_both (l : List (S102)) (hc : shape_Check.f l = some 0) (i j : Nat) (hi : i < l.length) (hj : j < l.length) : shape_there.f l [(i : Int), (j : Int)] = some true := by
  rw [there_two l 0 hc]; congr 1; simp; omega
theorem Pf_nat (l : List (S102)) (i : Nat) (h : 0 ≤ Pf l i) : (rd_T102 l (i : Int)).f2 = (((Pf l i).toNat : Nat) : Int) := by
  have : Pf l i = (rd_T102 l (i : Int)).f2 := rfl
  rw [this] at h ⊢
  omega

/-! ### kids -/
def kd (l : List (S102)) (a : Int) : Nat → Nat → List Int
  | 0, _ => []
  | d + 1, n => if Pf l n = a then (n : Int) :: kd l a d (n + 1) else kd l a d (n + 1)
theorem kids_ref (l : List (S102)) (hl : l.length ≤ 1000) (a : Int) : ∀ (d n : Nat) (acc : List Int), l.length - n = d → acc.length ≤ n → n ≤ l.length → Ev (fun k => semblanceref10_Kids.l0 k l a acc n) (acc ++ kd l a d n) := by
  intro d
  induction d with
  | zero =>
    intro n acc hd ha hn
    have h1 : ¬ ((n : Int) < (l.length : Int)) := by omega
    apply Ev.succ
    simp only [semblanceref10_Kids.l0, h1, if_false, kd, List.append_nil]
    exact Ev.now _
  | succ d ih =>
    intro n acc hd ha hn
    have h1 : (n : Int) < (l.length : Int) := by omega
    have h2 : (0 : Int) ≤ (n : Int) := by omega
    have h3 : acc.length < 17592186044416 := by omega
    have w : wrap64 ((n : Int) + 1) = ((n + 1 : Nat) : Int) := wrap_succ (by omega)
    have hP : (rd_T102 l (n : Int)).f2 = Pf l n := rfl
    apply Ev.succ
    by_cases hc : Pf l n = a
    · simp only [semblanceref10_Kids.l0, h1, h2, h3, hP, hc, if_true, w, kd]
      refine Ev.eq (ih (n + 1) (acc ++ [(n : Int)]) (by omega) (by simp; omega) (by omega)) (by simp)
    · simp only [semblanceref10_Kids.l0, h1, h2, h3, hP, hc, if_true, if_false, w, kd]
      exact ih (n + 1) acc (by omega) (by omega) (by omega)
theorem kids_prog (l : List (S102)) (hl : l.length ≤ 1000) (a : Int) : ∀ (d n : Nat) (acc : List Int), l.length - n = d → acc.length ≤ n → n ≤ l.length → Ev (fun k => shape_Kids.l0 k a acc l l.length n) (acc ++ kd l a d n) := by
  intro d
  induction d with
  | zero =>
    intro n acc hd ha hn
    have h1 : ¬ ((n : Int) < (l.length : Int)) := by omega
    apply Ev.succ
    simp only [shape_Kids.l0, h1, if_false, kd, List.append_nil]
    exact Ev.now _
  | succ d ih =>
    intro n acc hd ha hn
    have h1 : (n : Int) < (l.length : Int) := by omega
    have h2 : (0 : Int) ≤ (n : Int) := by omega
    have h3 : acc.length < 17592186044416 := by omega
    have w : wrap64 ((n : Int) + 1) = ((n + 1 : Nat) : Int) := wrap_succ (by omega)
    have hP : (rd_T102 l (n : Int)).f2 = Pf l n := rfl
    apply Ev.succ
    by_cases hc : Pf l n = a
    · simp only [shape_Kids.l0, h1, h2, h3, hP, hc, if_true, w, kd]
      refine Ev.eq (ih (n + 1) (acc ++ [(n : Int)]) (by omega) (by simp; omega) (by omega)) (by simp)
    · simp only [shape_Kids.l0, h1, h2, h3, hP, hc, if_true, if_false, w, kd]
      exact ih (n + 1) acc (by omega) (by omega) (by omega)
theorem kids_f (l : List (S102)) (hk : Okay l) (hc : shape_Check.f l = some 0) (i : Nat) (hi : i < l.length) : Ev (fun k => shape_Kids.f k l i) (kd l i l.length 0) := by
  have hl := hk.1
  simp only [shape_Kids.f, there_in l hc i hi, Option.bind_some, if_true]
  exact Ev.eq (kids_prog l (by omega) i l.length 0 [] (by omega) (by simp) (by omega)) (by simp)
theorem kids_ref_f (l : List (S102)) (hl : l.length ≤ 1000) (i : Int) : Ev (fun k => semblanceref10_Kids.f k l i) (kd l i l.length 0) := by
  simp only [semblanceref10_Kids.f]
  exact Ev.eq (kids_ref l hl i l.length 0 [] (by omega) (by simp) (by omega)) (by simp)

/-! ### above -/
theorem above_prog (l : List (S102)) (hk : Okay l) : ∀ (i : Nat) (acc : List Int), i < l.length → acc.length + i ≤ 2000 → Ev (fun k => shape_Above.l0 k l (Pf l i) acc) (acc ++ anc (Pf l) i) := by
  intro i
  have hl := hk.1
  have hv := hk.2
  induction i using Nat.strongRecOn with
  | _ i ih =>
    intro acc hi ha
    apply Ev.succ
    by_cases h0 : i = 0
    · subst h0
      have h3 : ¬ (Pf l 0 ≥ 0) := by have : Pf l 0 = -1 := hv.1; omega
      simp only [shape_Above.l0, h3, if_false]
      rw [valid_root hv, List.append_nil]
      exact Ev.now _
    · have g := hv.2.2 i (by omega) (by omega)
      have g1 : Pf l i ≥ 0 := g.1
      have g2 : Pf l i < i := g.2.1
      have g3 : Pf l i < (l.length : Int) := by omega
      have h4 : acc.length < 17592186044416 := by omega
      have e : Pf l i = (((Pf l i).toNat : Nat) : Int) := by omega
      have hlt : (Pf l i).toNat < i := by omega
      have := ih (Pf l i).toNat hlt (acc ++ [Pf l i]) (by omega) (by simp; omega)
      have hr : (rd_T102 l (Pf l i)).f2 = Pf l (Pf l i).toNat := by unfold Pf; rw [← Pf, ← e]
      simp only [shape_Above.l0, g1, g3, h4, hr, if_true]
      rw [valid_anc hv (by omega) (by omega), chain]
      rw [List.append_assoc] at this
      rw [← e]
      exact this
theorem above_f (l : List (S102)) (hk : Okay l) (hc : shape_Check.f l = some 0) (i : Nat) (hi : i < l.length) : Ev (fun k => shape_Above.f k l i) (anc (Pf l) i) := by
  have hl := hk.1
  have h1 : (0 : Int) ≤ (i : Int) := by omega
  have h2 : (i : Int) < (l.length : Int) := by omega
  have hP : (rd_T102 l (i : Int)).f2 = Pf l i := rfl
  simp only [shape_Above.f, there_in l hc i hi, Option.bind_some, if_true, h1, h2, hP]
  exact Ev.eq (above_prog l hk i [] hi (by simp; omega)) (by simp)
theorem above_ref_ok (l : List (S102)) (hk : Okay l) (i : Nat) (hi : i < l.length) : Ev (fun k => semblanceref10_Above.f k l i) (anc (Pf l) i) :=
  above_ref_f l (by have := hk.1; omega) i hi ⟨hk.2.1, hk.2.2.1, fun j h1 h2 => hk.2.2.2 j h1 (by omega)⟩
theorem depth_f (l : List (S102)) (hk : Okay l) (hc : shape_Check.f l = some 0) (i : Nat) (hi : i < l.length) : Ev (fun k => shape_Depth.f k l i) ((anc (Pf l) i).length + 1) := by
  have hl := hk.1
  simp only [shape_Depth.f, there_in l hc i hi, Option.bind_some, if_true]
  refine Ev.bind (above_f l hk hc i hi) ?_
  have := anc_length (P := Pf l) i
  rw [wrap_in (by omega) (by omega)]
  exact Ev.eq (Ev.now _) (by omega)

/-! ### the end -/
/-- e is the end of i -/
def isEnd (l : List (S102)) (i n e : Nat) : Prop := n ≤ e ∧ e ≤ l.length ∧ (∀ m, n ≤ m → m < e → (i : Int) ≤ Pf l m) ∧ (e < l.length → Pf l e < i)
theorem end_prog (l : List (S102)) (hl : l.length ≤ 1000) (i : Nat) : ∀ (d n : Nat), l.length - n = d → n ≤ l.length → ∃ e : Nat, Ev (fun k => shape_End.l0 k l i n) (e : Int) ∧ isEnd l i n e := by
  intro d
  induction d with
  | zero =>
    intro n hd hn
    have h1 : ¬ ((n : Int) < (l.length : Int)) := by omega
    refine ⟨n, ?_, Nat.le_refl _, hn, fun m a b => by omega, fun h => by omega⟩
    apply Ev.succ
    simp only [shape_End.l0, h1, if_false]
    exact Ev.now _
  | succ d ih =>
    intro n hd hn
    have h1 : (n : Int) < (l.length : Int) := by omega
    have h2 : (0 : Int) ≤ (n : Int) := by omega
    have hP : (rd_T102 l (n : Int)).f2 = Pf l n := rfl
    by_cases hc : Pf l n ≥ i
    · obtain ⟨e, he, h3, h4, h5, h6⟩ := ih (n + 1) (by omega) (by omega)
      refine ⟨e, ?_, by omega, h4, fun m a b => ?_, h6⟩
      · apply Ev.succ
        simp only [shape_End.l0, h1, h2, hP, hc, if_true]
        rw [wrap_succ (by omega)]
        exact he
      · by_cases e : m = n
        · subst e; exact hc
        · exact h5 m (by omega) b
    · refine ⟨n, ?_, Nat.le_refl _, hn, fun m a b => by omega, fun h => by omega⟩
      apply Ev.succ
      simp only [shape_End.l0, h1, h2, hP, hc, if_true, if_false]
      exact Ev.now _
theorem end_f (l : List (S102)) (hk : Okay l) (hc : shape_Check.f l = some 0) (i : Nat) (hi : i < l.length) : ∃ e : Nat, Ev (fun k => shape_End.f k l i) (e : Int) ∧ isEnd l i (i + 1) e := by
  have hl := hk.1
  obtain ⟨e, he, h⟩ := end_prog l (by omega) i (l.length - (i + 1)) (i + 1) rfl (by omega)
  refine ⟨e, ?_, h⟩
  simp only [shape_End.f, there_in l hc i hi, Option.bind_some, if_true]
  rw [wrap_succ (by omega)]
  exact he
theorem end_iff (l : List (S102)) (hk : Okay l) (i e : Nat) (hi : i < l.length) (he : isEnd l i (i + 1) e) (m : Nat) (hm : m < l.length) : (i : Int) ∈ anc (Pf l) m ↔ i < m ∧ m < e := by
  obtain ⟨h1, h2, h3, h4⟩ := he
  constructor
  · intro h
    have h5 := anc_lt m _ h
    refine ⟨by omega, ?_⟩
    apply Classical.byContradiction
    intro h6
    have h7 : e < l.length := by omega
    exact not_beyond hk.2 (by omega) (h4 h7) m (by omega) hm (List.mem_cons_of_mem _ h)
  · rintro ⟨h5, h6⟩
    exact below_in hk.2 (fun m a b => h3 m (by omega) b) h2 m h5 h6
theorem end_ref (l : List (S102)) (hk : Okay l) (i e : Nat) (hi : i < l.length) (he : isEnd l i (i + 1) e) : ∀ (d j cur : Nat), l.length - j = d → j ≤ l.length → cur = (if j ≤ i + 1 then i + 1 else min j e) → Ev (fun k => semblanceref10_End.l0 k l i cur j) (e : Int) := by
  have hl := hk.1
  intro d
  induction d with
  | zero =>
    intro j cur hd hj hcur
    have h1 : ¬ ((j : Int) < (l.length : Int)) := by omega
    apply Ev.succ
    simp only [semblanceref10_End.l0, h1, if_false]
    obtain ⟨h2, h3, _⟩ := he
    refine Ev.eq (Ev.now _) ?_
    rw [hcur]
    split <;> omega
  | succ d ih =>
    intro j cur hd hj hcur
    have h1 : (j : Int) < (l.length : Int) := by omega
    have hab := above_ref_ok l hk j (by omega)
    have hin := in_ref_f (i : Int) (anc (Pf l) j) (by have := anc_length (P := Pf l) j; omega)
    have hiff := end_iff l hk i e hi he j (by omega)
    obtain ⟨h2, h3, _⟩ := he
    apply Ev.succ
    simp only [semblanceref10_End.l0, h1, if_true]
    refine Ev.bind hab (Ev.bind hin ?_)
    rw [wrap_succ (by omega)]
    by_cases hm : (i : Int) ∈ anc (Pf l) j
    · have h5 := hiff.1 hm
      simp only [hm, decide_true, if_true]
      exact ih (j + 1) (j + 1) (by omega) (by omega) (by rw [if_neg (by omega)]; omega)
    · have h5 : ¬ (i < j ∧ j < e) := fun h => hm (hiff.2 h)
      simp only [hm, decide_false, if_false, Bool.false_eq_true]
      refine ih (j + 1) cur (by omega) (by omega) ?_
      rw [hcur]
      split <;> split <;> omega
theorem end_ref_f (l : List (S102)) (hk : Okay l) (i e : Nat) (hi : i < l.length) (he : isEnd l i (i + 1) e) : Ev (fun k => semblanceref10_End.f k l i) (e : Int) := by
  have hl := hk.1
  simp only [semblanceref10_End.f]
  rw [wrap_succ (by omega)]
  exact end_ref l hk i e hi he l.length 0 (i + 1) (by omega) (by omega) (by simp)

/-! ### meeting -/
theorem meet_prog (l : List (S102)) (hk : Okay l) : ∀ (m i j : Nat), i + j ≤ m → i < l.length → j < l.length → Ev (fun k => shape_Meet.l0 k l i j) (meet (Pf l) i j) := by
  have hv := hk.2
  intro m
  induction m with
  | zero =>
    intro i j h1 h2 h3
    obtain rfl : i = 0 := by omega
    obtain rfl : j = 0 := by omega
    apply Ev.succ
    simp only [shape_Meet.l0, if_true, meet_same]
    exact Ev.now _
  | succ m ih =>
    intro i j h1 h2 h3
    apply Ev.succ
    by_cases e : i = j
    · subst e
      simp only [shape_Meet.l0, if_true, meet_same]
      exact Ev.now _
    · have e1 : ¬ ((i : Int) = (j : Int)) := by omega
      by_cases hlt : j < i
      · have e2 : (i : Int) > (j : Int) := by omega
        have e3 : (0 : Int) ≤ (i : Int) := by omega
        have e4 : (i : Int) < (l.length : Int) := by omega
        have g := hv.2.2 i (by omega) h2
        have g1 := g.1
        have g2 := g.2.1
        simp only [shape_Meet.l0, e1, e2, e3, e4, if_true, if_false]
        rw [Pf_nat l i g1, meet_left hv h2 hlt]
        exact ih _ _ (by omega) (by omega) h3
      · have e2 : ¬ ((i : Int) > (j : Int)) := by omega
        have e3 : (0 : Int) ≤ (j : Int) := by omega
        have e4 : (j : Int) < (l.length : Int) := by omega
        have g := hv.2.2 j (by omega) h3
        have g1 := g.1
        have g2 := g.2.1
        simp only [shape_Meet.l0, e1, e2, e3, e4, if_true, if_false]
        rw [Pf_nat l j g1, meet_right hv h3 (by omega)]
        exact ih _ _ (by omega) h2 (by omega)
theorem meet_f (l : List (S102)) (hk : Okay l) (hc : shape_Check.f l = some 0) (i j : Nat) (hi : i < l.length) (hj : j < l.length) : Ev (fun k => shape_Meet.f k l i j) (meet (Pf l) i j) := by
  simp only [shape_Meet.f, there_both l hc i j hi hj, Option.bind_some, if_true]
  exact meet_prog l hk (i + j) i j (Nat.le_refl _) hi hj
theorem self_ref (l : List (S102)) (hk : Okay l) (i : Nat) (hi : i < l.length) : Ev (fun k => semblanceref10_Self.f k l i) (chain (Pf l) i) := by
  simp only [semblanceref10_Self.f, Option.bind_some]
  refine Ev.bind (above_ref_ok l hk i hi) ?_
  have := anc_length (P := Pf l) i
  have hl := hk.1
  simp only [show ([(i : Int)].length + (anc (Pf l) i).length < 17592186044416) = True from by simp; omega, if_true]
  exact Ev.now _
theorem meet_ref_loop (l : List (S102)) (hk : Okay l) (j : Nat) (hj : j < l.length) (xs : List Int) (hx : xs.length ≤ 1000) : ∀ (d n : Nat), xs.length - n = d → n ≤ xs.length →
    Ev (fun k => semblanceref10_Meet.l0 k l j xs n) (((xs.drop n).find? (fun x => decide (x ∈ chain (Pf l) j))).getD (-1)) := by
  have hl := hk.1
  intro d
  induction d with
  | zero =>
    intro n hd hn
    have h1 : ¬ ((n : Int) < (xs.length : Int)) := by omega
    apply Ev.succ
    simp only [semblanceref10_Meet.l0, h1, if_false]
    rw [List.drop_of_length_le (by omega)]
    exact Ev.now _
  | succ d ih =>
    intro n hd hn
    have h1 : (n : Int) < (xs.length : Int) := by omega
    have h2 : (0 : Int) ≤ (n : Int) := by omega
    have h3 : n < xs.length := by omega
    have hr : rd xs (n : Int) = xs[n] := by simp [rd, h3]
    have hin := in_ref_f (xs[n]) (chain (Pf l) j) (by have := anc_length (P := Pf l) j; simp [chain]; omega)
    apply Ev.succ
    simp only [semblanceref10_Meet.l0, h1, h2, hr, if_true]
    refine Ev.bind (self_ref l hk j hj) (Ev.bind hin ?_)
    rw [List.drop_eq_getElem_cons h3]
    by_cases hm : xs[n] ∈ chain (Pf l) j
    · rw [List.find?_cons_of_pos (by simpa using hm)]
      simp only [hm, decide_true, if_true, Option.getD_some]
      exact Ev.now _
    · rw [List.find?_cons_of_neg (by simpa using hm)]
      simp only [hm, decide_false, if_false, Bool.false_eq_true]
      rw [wrap_succ (by omega)]
      exact ih (n + 1) (by omega) (by omega)
theorem meet_ref_f (l : List (S102)) (hk : Okay l) (i j : Nat) (hi : i < l.length) (hj : j < l.length) : Ev (fun k => semblanceref10_Meet.f k l i j) (meet (Pf l) i j) := by
  simp only [semblanceref10_Meet.f]
  refine Ev.bind (self_ref l hk i hi) ?_
  have := anc_length (P := Pf l) i
  have hl := hk.1
  exact meet_ref_loop l hk j hj (chain (Pf l) i) (by simp [chain]; omega) _ 0 rfl (by omega)

end Go.Proofs.Ytbiegkifpkeaoaa.XS
