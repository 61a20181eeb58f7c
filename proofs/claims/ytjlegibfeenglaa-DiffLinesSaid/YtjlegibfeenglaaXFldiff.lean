import Derived.Test.YtjlegibfeenglaaXFind
import Derived.Test.YtjlegibfeenglaaXFo
import Derived.Test.YtjlegibfeenglaaXFp10
import Derived.Test.YtjlegibfeenglaaXFp11
import Derived.Test.YtjlegibfeenglaaXFp12
import Derived.Test.YtjlegibfeenglaaXFp5
import Derived.Test.YtjlegibfeenglaaXFp6
import Derived.Test.YtjlegibfeenglaaXFp7
import Derived.Test.YtjlegibfeenglaaXFp8
import Derived.Test.YtjlegibfeenglaaXFp9
import Derived.Test.YtjlegibfeenglaaXFuel
namespace Go.Proofs.Ytjlegibfeenglaa.XF
open Go.RowKit Go.Proofs.Ytjlegibfeenglaa.XRead Go.Proofs.Ytjlegibfeenglaa.XF Go.Proofs.YtjlegibfeenglaaW.PrintWords Go.Proofs.YtjlegibfeenglaaW.PrintLast Go.Proofs.YtjlegibfeenglaaW.PrintMore
open Go.Proofs.Ytjlegibfeenglaa.XFuel Go.Proofs.Ytjlegibfeenglaa.XFind
set_option linter.unusedVariables false
set_option linter.unusedSimpArgs false
/-! ### charts held against each other -/
theorem drop_all (p : Nat → Bool) (len n : Nat) (h : n < len) : ((List.range len).drop n).all p = (p n && ((List.range len).drop (n + 1)).all p) := by
  rw [List.drop_eq_getElem_cons (by simpa using h), List.getElem_range, List.all_cons]
theorem ev_all {L : Nat → Int → Option Bool} (p : Nat → Bool) (len : Nat) (hend : Ev (fun k => L k (len : Int)) true)
    (hstep : ∀ n, n < len → ∀ b, Ev (fun k => L k ((n + 1 : Nat) : Int)) b → Ev (fun k => L k (n : Int)) (p n && b)) :
    ∀ d n, len - n = d → n ≤ len → Ev (fun k => L k (n : Int)) (((List.range len).drop n).all p) := by
  intro d
  induction d with
  | zero =>
    intro n hd hn
    obtain rfl : n = len := by omega
    rw [List.drop_of_length_le (by simp)]
    exact hend
  | succ d ih =>
    intro n hd hn
    rw [drop_all p len n (by omega)]
    exact hstep n (by omega) _ (ih (n + 1) (by omega) (by omega))
theorem ev_all0 {L : Nat → Int → Option Bool} (p : Nat → Bool) (len : Nat) (hend : Ev (fun k => L k (len : Int)) true)
    (hstep : ∀ n, n < len → ∀ b, Ev (fun k => L k ((n + 1 : Nat) : Int)) b → Ev (fun k => L k (n : Int)) (p n && b)) :
    Ev (fun k => L k 0) ((List.range len).all p) := by
  have := ev_all p len hend hstep len 0 (by omega) (by omega)
  rw [List.drop_zero] at this
  exact this
theorem drop_rows {β : Type} (row : Nat → List β) (len n : Nat) (h : n < len) : ((List.range len).drop n).flatMap row = row n ++ ((List.range len).drop (n + 1)).flatMap row := by
  rw [List.drop_eq_getElem_cons (by simpa using h), List.getElem_range, List.flatMap_cons]
theorem ev_rows {β γ : Type} {L : Nat → List β → Int → Option γ} (row : Nat → List β) (len B : Nat) (h1 : ∀ n, (row n).length ≤ 1)
    (hstep : ∀ n, n < len → ∀ out : List β, out.length < B → ∀ r, Ev (fun k => L k (out ++ row n) ((n + 1 : Nat) : Int)) r → Ev (fun k => L k out (n : Int)) r) (r : γ) :
    ∀ d n (out : List β), len - n = d → n ≤ len → out.length + d ≤ B → Ev (fun k => L k (out ++ ((List.range len).drop n).flatMap row) (len : Int)) r → Ev (fun k => L k out (n : Int)) r := by
  intro d
  induction d with
  | zero =>
    intro n out hd hn hB h
    obtain rfl : n = len := by omega
    rw [List.drop_of_length_le (by simp)] at h
    simpa using h
  | succ d ih =>
    intro n out hd hn hB h
    rw [drop_rows row len n (by omega), ← List.append_assoc] at h
    exact hstep n (by omega) out (by omega) r (ih (n + 1) (out ++ row n) (by omega) (by omega) (by rw [List.length_append]; have := h1 n; omega) h)
theorem ev_rows0 {β γ : Type} {L : Nat → List β → Int → Option γ} (row : Nat → List β) (len B : Nat) (h1 : ∀ n, (row n).length ≤ 1)
    (hstep : ∀ n, n < len → ∀ out : List β, out.length < B → ∀ r, Ev (fun k => L k (out ++ row n) ((n + 1 : Nat) : Int)) r → Ev (fun k => L k out (n : Int)) r) (r : γ)
    (out : List β) (hB : out.length + len ≤ B) (h : Ev (fun k => L k (out ++ (List.range len).flatMap row) (len : Int)) r) : Ev (fun k => L k out 0) r :=
  ev_rows row len B h1 hstep r len 0 out (by omega) (by omega) hB (by rw [List.drop_zero]; exact h)
def eqS (a b : List ByteArray) : Bool := decide (a.length = b.length) && (List.range a.length).all fun j => decide ((a.getD j ByteArray.empty).toList = (b.getD j ByteArray.empty).toList)
def eqV (x y : S95) : Bool := (x.f0.toList == y.f0.toList) && ((x.f1 == y.f1) && ((x.f2 == y.f2) && (x.f3 == y.f3)))
def eqVs (a b : List (S95)) : Bool := decide (a.length = b.length) && (List.range a.length).all fun j => eqV (a.getD j z95) (b.getD j z95)
abbrev eqAs (a b : List (S130)) : Bool := EqualFunc_Act.val trans_Same.eqA a b
abbrev eqTr (x y : S102) : Bool := trans_Same.eq x.f0 x.f1 x.f2 x.f3 y.f0 y.f1 y.f2 y.f3
abbrev eqTrs (a b : List (S102)) : Bool := EqualFunc_Trans.val eqTr a b
theorem texts_f (a b : List ByteArray) (ha : a.length ≤ 9223372036854775807) : Ev (fun k => semblanceref01_Texts.f k a b) (eqS a b) := by
  unfold eqS
  by_cases he : a.length = b.length
  · have he' : (a.length : Int) = (b.length : Int) := by omega
    simp only [semblanceref01_Texts.f, if_pos he', decide_eq_true he, Bool.true_and]
    refine ev_all0 (L := fun k n => semblanceref01_Texts.l0 k a b n) _ a.length ?_ ?_
    · apply Ev.succ
      simp only [semblanceref01_Texts.l0, Int.lt_irrefl, if_false]
      exact Ev.now _
    · intro n hn c hc
      have h1 : (n : Int) < (a.length : Int) := by omega
      have h2 : (0 : Int) ≤ (n : Int) := by omega
      have h3 : (n : Int) < (b.length : Int) := by omega
      apply Ev.succ
      simp only [semblanceref01_Texts.l0, h1, h2, h3, if_true, rdOf, Int.toNat_natCast]
      by_cases q : (a.getD n ByteArray.empty).toList = (b.getD n ByteArray.empty).toList
      · simp only [q, if_true, decide_true, Bool.true_and]
        rw [wrap_succ (by omega)]
        exact hc
      · simp only [q, if_false, decide_false, Bool.false_and]
        exact Ev.now _
  · have he' : ¬ ((a.length : Int) = (b.length : Int)) := by omega
    simp only [semblanceref01_Texts.f, if_neg he', decide_eq_false he, Bool.false_and]
    exact Ev.now _
theorem eqstr_f (a b : List ByteArray) (ha : a.length ≤ 9223372036854775807) : Ev (fun k => slices_Equal_string_string.f k a b) (eqS a b) := by
  unfold eqS
  by_cases he : a.length = b.length
  · have he' : (a.length : Int) = (b.length : Int) := by omega
    simp only [slices_Equal_string_string.f, if_pos he', decide_eq_true he, Bool.true_and]
    refine ev_all0 (L := fun k n => slices_Equal_string_string.l0 k a b (a.length : Int) n) _ a.length ?_ ?_
    · apply Ev.succ
      simp only [slices_Equal_string_string.l0, Int.lt_irrefl, if_false]
      exact Ev.now _
    · intro n hn c hc
      have h1 : (n : Int) < (a.length : Int) := by omega
      have h2 : (0 : Int) ≤ (n : Int) := by omega
      have h3 : (n : Int) < (b.length : Int) := by omega
      apply Ev.succ
      simp only [slices_Equal_string_string.l0, h1, h2, h3, if_true, rdOf, Int.toNat_natCast]
      by_cases q : (a.getD n ByteArray.empty).toList = (b.getD n ByteArray.empty).toList
      · simp only [q, if_true, decide_true, Bool.true_and]
        rw [wrap_succ (by omega)]
        exact hc
      · simp only [q, if_false, decide_false, Bool.false_and]
        exact Ev.now _
  · have he' : ¬ ((a.length : Int) = (b.length : Int)) := by omega
    simp only [slices_Equal_string_string.f, if_neg he', decide_eq_false he, Bool.false_and]
    exact Ev.now _
theorem vars_f (a b : List (S95)) (ha : a.length ≤ 9223372036854775807) : Ev (fun k => api_Var.f k a b) (eqVs a b) := by
  unfold eqVs
  by_cases he : a.length = b.length
  · have he' : (a.length : Int) = (b.length : Int) := by omega
    simp only [api_Var.f, if_pos he', decide_eq_true he, Bool.true_and]
    refine ev_all0 (L := fun k n => api_Var.l0 k a b (a.length : Int) n) _ a.length ?_ ?_
    · apply Ev.succ
      simp only [api_Var.l0, Int.lt_irrefl, if_false]
      exact Ev.now _
    · intro n hn c hc
      have h1 : (n : Int) < (a.length : Int) := by omega
      have h2 : (0 : Int) ≤ (n : Int) := by omega
      have h3 : (n : Int) < (b.length : Int) := by omega
      apply Ev.succ
      have r0 : rd_T95 a (n : Int) = a.getD n z95 := by unfold rd_T95; rw [Int.toNat_natCast]
      have r1 : rd_T95 b (n : Int) = b.getD n z95 := by unfold rd_T95; rw [Int.toNat_natCast]
      simp only [api_Var.l0, h1, h2, h3, if_true, r0, r1]
      clear r0 r1
      generalize a.getD n z95 = x
      generalize b.getD n z95 = y
      have hq : (!(x.f0.toList == y.f0.toList) || (!(x.f1 == y.f1) || (!(x.f2 == y.f2) || (!(x.f3 == y.f3))))) = !(eqV x y) := by unfold eqV; rw [Bool.not_and, Bool.not_and, Bool.not_and]
      cases q : eqV x y with
      | true =>
        simp only [hq, q, Bool.not_true, Bool.false_eq_true, if_false, Bool.true_and]
        rw [wrap_succ (by omega)]
        exact hc
      | false =>
        simp only [hq, q, Bool.not_false, if_true, Bool.false_and]
        exact Ev.now _
  · have he' : ¬ ((a.length : Int) = (b.length : Int)) := by omega
    simp only [api_Var.f, if_neg he', decide_eq_false he, Bool.false_and]
    exact Ev.now _
theorem terms_f (a b : List (S117)) (ha : a.length ≤ 9223372036854775807) : Ev (fun k => semblanceref05_Same.f k a b) (trans_Same.eqTs a b) := by
  unfold trans_Same.eqTs
  by_cases he : a.length = b.length
  · have he' : (a.length : Int) = (b.length : Int) := by omega
    simp only [semblanceref05_Same.f, if_pos he', decide_eq_true he, Bool.true_and]
    refine ev_all0 (L := fun k n => semblanceref05_Same.l0 k a b n) _ a.length ?_ ?_
    · apply Ev.succ
      simp only [semblanceref05_Same.l0, Int.lt_irrefl, if_false]
      exact Ev.now _
    · intro n hn c hc
      have h1 : (n : Int) < (a.length : Int) := by omega
      have h2 : (0 : Int) ≤ (n : Int) := by omega
      have h3 : (n : Int) < (b.length : Int) := by omega
      apply Ev.succ
      have r0 : rd_T117 a (n : Int) = a.getD n z117 := by unfold rd_T117; rw [Int.toNat_natCast]
      have r1 : rd_T117 b (n : Int) = b.getD n z117 := by unfold rd_T117; rw [Int.toNat_natCast]
      simp only [semblanceref05_Same.l0, h1, h2, h3, if_true, r0, r1]
      clear r0 r1
      generalize a.getD n z117 = x
      generalize b.getD n z117 = y
      have hq : (!(x.f0 == y.f0) || (!(x.f1 == y.f1) || (!(x.f2.toList == y.f2.toList)))) = !(trans_Same.eqT x y) := by unfold trans_Same.eqT; rw [Bool.not_and, Bool.not_and]
      cases q : trans_Same.eqT x y with
      | true =>
        simp only [hq, q, Bool.not_true, Bool.false_eq_true, if_false, Bool.true_and]
        rw [wrap_succ (by omega)]
        exact hc
      | false =>
        simp only [hq, q, Bool.not_false, if_true, Bool.false_and]
        exact Ev.now _
  · have he' : ¬ ((a.length : Int) = (b.length : Int)) := by omega
    simp only [semblanceref05_Same.f, if_neg he', decide_eq_false he, Bool.false_and]
    exact Ev.now _
theorem acts_f (a b : List (S130)) (ha : a.length ≤ 9223372036854775807) (hF : ∀ x ∈ a, F130 x) : Ev (fun k => semblanceref08_Same.f k a b) (eqAs a b) := by
  unfold eqAs EqualFunc_Act.val
  by_cases he : a.length = b.length
  · have he' : (a.length : Int) = (b.length : Int) := by omega
    simp only [semblanceref08_Same.f, if_pos he', decide_eq_true he, Bool.true_and]
    refine ev_all0 (L := fun k n => semblanceref08_Same.l0 k a b n) _ a.length ?_ ?_
    · apply Ev.succ
      simp only [semblanceref08_Same.l0, Int.lt_irrefl, if_false]
      exact Ev.now _
    · intro n hn c hc
      have h1 : (n : Int) < (a.length : Int) := by omega
      have h2 : (0 : Int) ≤ (n : Int) := by omega
      have h3 : (n : Int) < (b.length : Int) := by omega
      have hx : (a.getD n z130).f2.length ≤ 9223372036854775807 := by
        have hm : a.getD n z130 ∈ a := by simp only [List.getD, List.getElem?_eq_getElem hn, Option.getD_some]; exact List.getElem_mem hn
        have := (hF _ hm).2.2.1
        omega
      apply Ev.succ
      have r0 : rd_T130 a (n : Int) = a.getD n z130 := by unfold rd_T130; rw [Int.toNat_natCast]
      have r1 : rd_T130 b (n : Int) = b.getD n z130 := by unfold rd_T130; rw [Int.toNat_natCast]
      simp only [semblanceref08_Same.l0, h1, h2, h3, if_true, r0, r1]
      clear r0 r1
      generalize a.getD n z130 = x at *
      generalize b.getD n z130 = y at *
      unfold trans_Same.eqA
      by_cases q : x.f0.toList = y.f0.toList
      · simp only [q, if_true, decide_true, Bool.true_and]
        cases q1 : (x.f1 == y.f1) with
        | true =>
          have q2 : (x.f1 != y.f1) = false := by rw [bne, q1]; rfl
          simp only [q2, Bool.false_eq_true, if_false, Bool.true_and]
          refine Ev.bind (terms_f x.f2 y.f2 hx) ?_
          cases q3 : trans_Same.eqTs x.f2 y.f2 with
          | true =>
            simp only [if_true, Bool.true_and]
            rw [wrap_succ (by omega)]
            exact hc
          | false =>
            simp only [Bool.false_eq_true, if_false, Bool.false_and]
            exact Ev.now _
        | false =>
          have q2 : (x.f1 != y.f1) = true := by rw [bne, q1]; rfl
          simp only [q2, if_true, Bool.false_and]
          exact Ev.now _
      · simp only [q, if_false, decide_false, Bool.false_and]
        exact Ev.now _
  · have he' : ¬ ((a.length : Int) = (b.length : Int)) := by omega
    simp only [semblanceref08_Same.f, if_neg he', decide_eq_false he, Bool.false_and]
    exact Ev.now _
theorem trans_f (x y : S102) (hF : F102 x) : Ev (fun k => semblanceref09_Same.f k x.f0 x.f1 x.f2 x.f3 y.f0 y.f1 y.f2 y.f3) (eqTr x y) := by
  unfold eqTr trans_Same.eq
  by_cases q : x.f0.toList = y.f0.toList
  · by_cases q1 : x.f3.toList = y.f3.toList
    · simp only [semblanceref09_Same.f, q, q1, if_true, decide_true, Bool.true_and]
      refine Ev.bind (terms_f x.f1 y.f1 (by have := hF.2.1.1; omega)) ?_
      cases q3 : trans_Same.eqTs x.f1 y.f1 with
      | true =>
        simp only [if_true, Bool.true_and]
        exact Ev.bind (acts_f x.f2 y.f2 (by have := hF.2.2.1.1; omega) hF.2.2.1.2) (Ev.now _)
      | false =>
        simp only [Bool.false_eq_true, if_false, Bool.false_and]
        exact Ev.now _
    · simp only [semblanceref09_Same.f, q, q1, if_true, if_false, decide_true, decide_false, Bool.true_and, Bool.false_and]
      exact Ev.now _
  · simp only [semblanceref09_Same.f, q, if_false, decide_false, Bool.false_and]
    exact Ev.now _
theorem all_f (a b : List (S102)) (ha : a.length ≤ 9223372036854775807) (hF : ∀ x ∈ a, F102 x) : Ev (fun k => semblanceref09_All.f k a b) (eqTrs a b) := by
  unfold eqTrs EqualFunc_Trans.val
  by_cases he : a.length = b.length
  · have he' : (a.length : Int) = (b.length : Int) := by omega
    simp only [semblanceref09_All.f, if_pos he', decide_eq_true he, Bool.true_and]
    refine ev_all0 (L := fun k n => semblanceref09_All.l0 k a b n) _ a.length ?_ ?_
    · apply Ev.succ
      simp only [semblanceref09_All.l0, Int.lt_irrefl, if_false]
      exact Ev.now _
    · intro n hn c hc
      have h1 : (n : Int) < (a.length : Int) := by omega
      have h2 : (0 : Int) ≤ (n : Int) := by omega
      have h3 : (n : Int) < (b.length : Int) := by omega
      have hm : a.getD n z102 ∈ a := by simp only [List.getD, List.getElem?_eq_getElem hn, Option.getD_some]; exact List.getElem_mem hn
      have hf := trans_f (a.getD n z102) (b.getD n z102) (hF _ hm)
      apply Ev.succ
      have r0 : rd_T102 a (n : Int) = a.getD n z102 := by unfold rd_T102; rw [Int.toNat_natCast]
      have r1 : rd_T102 b (n : Int) = b.getD n z102 := by unfold rd_T102; rw [Int.toNat_natCast]
      simp only [semblanceref09_All.l0, h1, h2, h3, if_true, r0, r1]
      clear r0 r1
      generalize a.getD n z102 = x at *
      generalize b.getD n z102 = y at *
      refine Ev.bind hf ?_
      cases q : eqTr x y with
      | true =>
        simp only [if_true, Bool.true_and]
        rw [wrap_succ (by omega)]
        exact hc
      | false =>
        simp only [Bool.false_eq_true, if_false, Bool.false_and]
        exact Ev.now _
  · have he' : ¬ ((a.length : Int) = (b.length : Int)) := by omega
    simp only [semblanceref09_All.f, if_neg he', decide_eq_false he, Bool.false_and]
    exact Ev.now _
/-! the state above, a state's place -/
def aboveB (l : List (S99)) (p : Int) : ByteArray := if p < 0 then ⟨#[]⟩ else if p ≥ (l.length : Int) then ⟨#[]⟩ else (rd_T99 l p).f0
theorem above_f (a0 : ByteArray) (a1 : List ByteArray) (a2 : List (S95)) (l : List (S99)) (b0 : ByteArray) (b1 p : Int) (b3 b4 : List (S130)) (b5 : List (S102)) : diff_above.f a0 a1 a2 l b0 b1 p b3 b4 b5 = some (aboveB l p) := by
  unfold diff_above.f aboveB
  by_cases h0 : p < 0
  · simp only [h0, if_true]
  · by_cases h1 : p ≥ (l.length : Int)
    · simp only [h0, h1, if_true, if_false]
    · have h2 : 0 ≤ p := by omega
      have h3 : p < (l.length : Int) := by omega
      simp only [h0, h1, h2, h3, if_true, if_false]
theorem acts_val (a b : List (S130)) : diff_acts.f a b = some (eqAs a b) := by
  unfold diff_acts.f trans_Same.f trans_Same.eq
  have : trans_Same.eqTs ([] : List (S117)) ([] : List (S117)) = true := rfl
  simp [this, eqAs]
def alikeB (la lb : List (S99)) (s t : S99) : Bool :=
  decide (s.f1 = t.f1) && (decide ((aboveB la s.f2).toList = (aboveB lb t.f2).toList) && (eqAs s.f3 t.f3 && (eqAs s.f4 t.f4 && eqTrs s.f5 t.f5)))
theorem alike_f (a0 : ByteArray) (a1 : List ByteArray) (a2 : List (S95)) (la : List (S99)) (b0 : ByteArray) (b1 : List ByteArray) (b2 : List (S95)) (lb : List (S99)) (s t : S99) :
    diff_alike.f a0 a1 a2 la b0 b1 b2 lb s.f0 s.f1 s.f2 s.f3 s.f4 s.f5 t.f0 t.f1 t.f2 t.f3 t.f4 t.f5 = some (alikeB la lb s t) := by
  have ht : api_Trans.f s.f5 t.f5 0 = some (eqTrs s.f5 t.f5) := rfl
  unfold diff_alike.f alikeB
  simp only [above_f, acts_val, ht, Option.bind_some]
  by_cases h0 : s.f1 = t.f1
  · by_cases h1 : (aboveB la s.f2).toList = (aboveB lb t.f2).toList
    · cases h2 : eqAs s.f3 t.f3 <;> cases h3 : eqAs s.f4 t.f4 <;> simp [h0, h1]
    · simp [h0, h1]
  · simp [h0]
/-! the lines -/
def headsB (a0 : ByteArray) (a1 : List ByteArray) (a2 : List (S95)) (b0 : ByteArray) (b1 : List ByteArray) (b2 : List (S95)) : List ByteArray :=
  (if a0.toList = b0.toList then [] else [⟨#[110, 97, 109, 101]⟩]) ++ (if eqS a1 b1 = true then [] else [⟨#[101, 118, 101, 110, 116, 115]⟩]) ++ (if eqVs a2 b2 = true then [] else [⟨#[118, 97, 114, 115]⟩])
def row1 (la lb : List (S99)) (n : Nat) : List ByteArray :=
  if diff_find.i lb (la.getD n z99).f0 < 0 then [(⟨#[45, 32]⟩ : ByteArray) ++ (la.getD n z99).f0]
  else if alikeB la lb (la.getD n z99) (lb.getD (diff_find.i lb (la.getD n z99).f0).toNat z99) = true then [] else [(⟨#[126, 32]⟩ : ByteArray) ++ (la.getD n z99).f0]
def row2 (la lb : List (S99)) (n : Nat) : List ByteArray := if diff_find.i la (lb.getD n z99).f0 < 0 then [(⟨#[43, 32]⟩ : ByteArray) ++ (lb.getD n z99).f0] else []
def linesB (a0 : ByteArray) (a1 : List ByteArray) (a2 : List (S95)) (a3 : List (S99)) (b0 : ByteArray) (b1 : List ByteArray) (b2 : List (S95)) (b3 : List (S99)) : List ByteArray :=
  headsB a0 a1 a2 b0 b1 b2 ++ (List.range a3.length).flatMap (row1 a3 b3) ++ (List.range b3.length).flatMap (row2 a3 b3)
theorem row1_one (la lb : List (S99)) (n : Nat) : (row1 la lb n).length ≤ 1 := by
  unfold row1
  split
  · exact Nat.le_refl _
  · split
    · exact Nat.zero_le _
    · exact Nat.le_refl _
theorem row2_one (la lb : List (S99)) (n : Nat) : (row2 la lb n).length ≤ 1 := by
  unfold row2
  split
  · exact Nat.le_refl _
  · exact Nat.zero_le _
theorem rows_len {β : Type} (row : Nat → List β) (h1 : ∀ n, (row n).length ≤ 1) (l : List Nat) : (l.flatMap row).length ≤ l.length := by
  induction l with
  | nil => simp
  | cons x l ih => rw [List.flatMap_cons, List.length_append, List.length_cons]; have := h1 x; omega
theorem heads_len (a0 : ByteArray) (a1 : List ByteArray) (a2 : List (S95)) (b0 : ByteArray) (b1 : List ByteArray) (b2 : List (S95)) : (headsB a0 a1 a2 b0 b1 b2).length ≤ 3 := by
  unfold headsB
  by_cases h0 : a0.toList = b0.toList <;> by_cases h1 : eqS a1 b1 = true <;> by_cases h2 : eqVs a2 b2 = true <;> simp [h0, h1, h2]
theorem heads_f (a0 : ByteArray) (a1 : List ByteArray) (a2 : List (S95)) (a3 : List (S99)) (b0 : ByteArray) (b1 : List ByteArray) (b2 : List (S95)) (b3 : List (S99)) (h1 : a1.length ≤ 9223372036854775807) (h2 : a2.length ≤ 9223372036854775807) :
    Ev (fun k => diff_heads.f k a0 a1 a2 a3 b0 b1 b2 b3) (headsB a0 a1 a2 b0 b1 b2) := by
  have hj : ∀ out : List ByteArray, out.length ≤ 1 → Ev (fun k => diff_heads.j0 k out a0 a1 a2 a3 b0 b1 b2 b3) (out ++ (if eqS a1 b1 = true then [] else [⟨#[101, 118, 101, 110, 116, 115]⟩]) ++ (if eqVs a2 b2 = true then [] else [⟨#[118, 97, 114, 115]⟩])) := by
    intro out ho
    have c1 : out.length < 8796093022208 := by omega
    have c2 : (out ++ [(⟨#[101, 118, 101, 110, 116, 115]⟩ : ByteArray)]).length < 8796093022208 := by rw [List.length_append, List.length_singleton]; omega
    apply Ev.succ
    simp only [diff_heads.j0]
    refine Ev.bind (eqstr_f a1 b1 h1) ?_
    by_cases q1 : eqS a1 b1 = true
    · simp only [q1, if_true, List.append_nil]
      refine Ev.bind (vars_f a2 b2 h2) ?_
      by_cases q2 : eqVs a2 b2 = true
      · simp only [q2, if_true, List.append_nil]; exact Ev.now _
      · simp only [q2, c1, if_true, if_false]; exact Ev.now _
    · simp only [q1, c1, if_true, if_false, Option.bind_some]
      refine Ev.bind (vars_f a2 b2 h2) ?_
      by_cases q2 : eqVs a2 b2 = true
      · simp only [q2, if_true, List.append_nil]; exact Ev.now _
      · simp only [q2, c2, if_true, if_false]; exact Ev.now _
  unfold headsB
  by_cases h0 : a0.toList = b0.toList
  · simp only [diff_heads.f, h0, if_true]
    exact hj [] (by simp)
  · have c0 : ([] : List ByteArray).length < 8796093022208 := by simp
    simp only [diff_heads.f, h0, c0, if_true, if_false]
    exact hj ([] ++ [⟨#[110, 97, 109, 101]⟩]) (by simp)
theorem size_ok {n : Nat} (h : n ≤ 140737488351232) : 2 + n ≤ 9223372036854775807 := by omega
theorem getF {l : List (S99)} (hF : ∀ x ∈ l, F99 x) {n : Nat} (hn : n < l.length) : F99 (l.getD n z99) := by
  refine hF _ ?_
  simp only [List.getD, List.getElem?_eq_getElem hn, Option.getD_some]
  exact List.getElem_mem hn
theorem lines_f (a0 : ByteArray) (a1 : List ByteArray) (a2 : List (S95)) (a3 : List (S99)) (b0 : ByteArray) (b1 : List ByteArray) (b2 : List (S95)) (b3 : List (S99))
    (h1 : a1.length ≤ 9223372036854775807) (h2 : a2.length ≤ 9223372036854775807) (h3 : a3.length * 104 ≤ 140737488351232) (h4 : b3.length * 104 ≤ 140737488351232) (hA : ∀ x ∈ a3, F99 x) (hB : ∀ x ∈ b3, F99 x) :
    Ev (fun k => diff_Lines.f k a0 a1 a2 a3 b0 b1 b2 b3) (linesB a0 a1 a2 a3 b0 b1 b2 b3) := by
  unfold diff_Lines.f
  refine Ev.bind (heads_f a0 a1 a2 a3 b0 b1 b2 b3 h1 h2) ?_
  have hh := heads_len a0 a1 a2 b0 b1 b2
  have hr := rows_len (row1 a3 b3) (row1_one a3 b3) (List.range a3.length)
  rw [List.length_range] at hr
  refine ev_rows0 (L := fun k out n => diff_Lines.l0 k out a3 (a3.length : Int) n a0 a1 a2 a3 b0 b1 b2 b3) (row1 a3 b3) a3.length 8796093022208 (row1_one a3 b3) ?_ _ _ (by omega) ?_
  · intro n hn out ho r h
    have g1 : (n : Int) < (a3.length : Int) := by omega
    have g2 : (0 : Int) ≤ (n : Int) := by omega
    have hz : rd_T99 a3 (n : Int) = a3.getD n z99 := by unfold rd_T99; rw [Int.toNat_natCast]
    have hs := size_ok (getF hA hn).1
    apply Ev.succ
    simp only [diff_Lines.l0, g1, g2, if_true, hz, diff_find.f, Option.bind_some, alike_f]
    unfold row1 at h
    generalize a3.getD n z99 = s at *
    by_cases hi : diff_find.i b3 s.f0 < 0
    · have hi' : ¬ (0 ≤ diff_find.i b3 s.f0) := by omega
      simp only [hi, if_true] at h
      simp only [hi', decide_false, Bool.false_eq_true, if_false, hs, ho, if_true]
      rw [wrap_succ (by omega)]
      exact h
    · have hi' : 0 ≤ diff_find.i b3 s.f0 := by omega
      have hx : diff_find.x b3 s.f0 = b3.getD (diff_find.i b3 s.f0).toNat z99 := by unfold diff_find.x; rw [if_pos hi']
      simp only [hi, if_false] at h
      simp only [hi', decide_true, if_true, hx]
      by_cases hq : alikeB a3 b3 s (b3.getD (diff_find.i b3 s.f0).toNat z99) = true
      · simp only [hq, if_true, List.append_nil] at h
        simp only [hq, if_true]
        rw [wrap_succ (by omega)]
        exact h
      · simp only [hq, if_false] at h
        simp only [hq, if_false, hs, ho, if_true]
        rw [wrap_succ (by omega)]
        exact h
  · apply Ev.succ
    simp only [diff_Lines.l0, Int.lt_irrefl, if_false]
    refine ev_rows0 (L := fun k out n => diff_Lines.l1 k out b3 (b3.length : Int) n a0 a1 a2 a3) (row2 a3 b3) b3.length 8796093022208 (row2_one a3 b3) ?_ _ _ (by rw [List.length_append]; omega) ?_
    · intro n hn out ho r h
      have g1 : (n : Int) < (b3.length : Int) := by omega
      have g2 : (0 : Int) ≤ (n : Int) := by omega
      have hz : rd_T99 b3 (n : Int) = b3.getD n z99 := by unfold rd_T99; rw [Int.toNat_natCast]
      have hs := size_ok (getF hB hn).1
      apply Ev.succ
      simp only [diff_Lines.l1, g1, g2, if_true, hz, diff_find.f, Option.bind_some]
      unfold row2 at h
      generalize b3.getD n z99 = s at *
      by_cases hi : diff_find.i a3 s.f0 < 0
      · have hi' : ¬ (0 ≤ diff_find.i a3 s.f0) := by omega
        simp only [hi, if_true] at h
        simp only [hi', decide_false, Bool.false_eq_true, if_false, hs, ho, if_true]
        rw [wrap_succ (by omega)]
        exact h
      · have hi' : 0 ≤ diff_find.i a3 s.f0 := by omega
        simp only [hi, if_false, List.append_nil] at h
        simp only [hi', decide_true, if_true]
        rw [wrap_succ (by omega)]
        exact h
    · apply Ev.succ
      simp only [diff_Lines.l1, Int.lt_irrefl, if_false]
      exact Ev.now _
theorem dsame_f (a0 : ByteArray) (a1 : List ByteArray) (a2 : List (S95)) (a3 : List (S99)) (b0 : ByteArray) (b1 : List ByteArray) (b2 : List (S95)) (b3 : List (S99))
    (h1 : a1.length ≤ 9223372036854775807) (h2 : a2.length ≤ 9223372036854775807) (h3 : a3.length * 104 ≤ 140737488351232) (h4 : b3.length * 104 ≤ 140737488351232) (hA : ∀ x ∈ a3, F99 x) (hB : ∀ x ∈ b3, F99 x) :
    Ev (fun k => diff_Same.f k a0 a1 a2 a3 b0 b1 b2 b3) (((linesB a0 a1 a2 a3 b0 b1 b2 b3).length : Int) == 0) := by
  unfold diff_Same.f
  exact Ev.bind (lines_f a0 a1 a2 a3 b0 b1 b2 b3 h1 h2 h3 h4 hA hB) (Ev.now _)
theorem eqS_self (a : List ByteArray) : eqS a a = true := by unfold eqS; simp

end Go.Proofs.Ytjlegibfeenglaa.XF
